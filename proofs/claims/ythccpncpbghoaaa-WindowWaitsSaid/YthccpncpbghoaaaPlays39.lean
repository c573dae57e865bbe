/- The laws WindowPlays and WindowOnce: their walks. -/
import Derived.Test.YthccpncpbghoaaaAw39
set_option autoImplicit false
namespace Go.Proofs
open Go.SL
attribute [local irreducible] J JL QOp JOp seqQ blockQ loopQ retQ slc cel hex star pur stars Does RV Ent pAt scopeQ
attribute [local irreducible] mpC
theorem plays_calls (E : World) (z : Int) (S : SV) (l : List Int) (hz : ∀ x ∈ l, x ≤ 9223372036854775807) : Does Try.prog E 3 [.int .i64 z, S.v] [slc tZ false S l] fun v L => v = .bool true ∧ L = [] := by
  obtain ⟨hs1, hs2⟩ := winSize_le z
  refine Does.of Try.func3 rfl Try.ntmps3 rfl rfl fun F => ?_
  refine J.norm ?_
  repeat first
    | refine J_seq ?_
    | refine seqQ_normal ?_
    | refine J_condT rfl ?_
    | refine J_condF rfl ?_
    | refine J_block ?_
    | refine blockQ_normal ?_
    | refine J_exit ?_
    | refine seqQ_exit ?_
    | refine blockQ_hit ?_
    | refine blockQ_miss rfl ?_
    | refine J_skip ?_
    | refine J_ret ?_
    | refine seqQ_ret ?_
    | refine blockQ_ret ?_
    | refine loopQ_exit ?_
    | refine loopQ_ret ?_
    | refine J_label ?_
    | refine J_scope ?_
    | refine scopeQ_normal ?_
    | refine scopeQ_exit ?_
    | refine scopeQ_ret ?_
  refine J_region ?_
  refine L_q (Q_assign rfl) rfl rfl rfl ?_
  refine JL_nil ?_
  repeat first
    | refine J_seq ?_
    | refine seqQ_normal ?_
    | refine J_condT rfl ?_
    | refine J_condF rfl ?_
    | refine J_block ?_
    | refine blockQ_normal ?_
    | refine J_exit ?_
    | refine seqQ_exit ?_
    | refine blockQ_hit ?_
    | refine blockQ_miss rfl ?_
    | refine J_skip ?_
    | refine J_ret ?_
    | refine seqQ_ret ?_
    | refine blockQ_ret ?_
    | refine loopQ_exit ?_
    | refine loopQ_ret ?_
    | refine J_label ?_
    | refine J_scope ?_
    | refine scopeQ_normal ?_
    | refine scopeQ_exit ?_
    | refine scopeQ_ret ?_
  repeat first
    | refine J_seq ?_
    | refine seqQ_normal ?_
    | refine J_condT rfl ?_
    | refine J_condF rfl ?_
    | refine J_block ?_
    | refine blockQ_normal ?_
    | refine J_exit ?_
    | refine seqQ_exit ?_
    | refine blockQ_hit ?_
    | refine blockQ_miss rfl ?_
    | refine J_skip ?_
    | refine J_ret ?_
    | refine seqQ_ret ?_
    | refine blockQ_ret ?_
    | refine loopQ_exit ?_
    | refine loopQ_ret ?_
    | refine J_label ?_
    | refine J_scope ?_
    | refine scopeQ_normal ?_
    | refine scopeQ_exit ?_
    | refine scopeQ_ret ?_
  refine J_region ?_
  refine L_q (Q_move rfl) rfl rfl rfl ?_
  first
    | refine L_q (Q_lenAt 0 rfl rfl) rfl rfl rfl ?_
    | refine L_q (Q_lenAt 1 rfl rfl) rfl rfl rfl ?_
    | refine L_q (Q_lenAt 2 rfl rfl) rfl rfl rfl ?_
    | refine L_q (Q_lenAt 3 rfl rfl) rfl rfl rfl ?_
    | refine L_q (Q_lenAt 4 rfl rfl) rfl rfl rfl ?_
    | refine L_q (Q_lenAt 5 rfl rfl) rfl rfl rfl ?_
    | refine L_q (Q_lenAt 6 rfl rfl) rfl rfl rfl ?_
    | refine L_q (Q_lenAt 7 rfl rfl) rfl rfl rfl ?_
    | refine L_q (Q_lenAt 8 rfl rfl) rfl rfl rfl ?_
    | refine L_q (Q_lenAt 9 rfl rfl) rfl rfl rfl ?_
  refine L_q (Q_gtr rfl rfl) rfl rfl rfl ?_
  refine JL_nil ?_
  repeat first
    | refine J_seq ?_
    | refine seqQ_normal ?_
    | refine J_condT rfl ?_
    | refine J_condF rfl ?_
    | refine J_block ?_
    | refine blockQ_normal ?_
    | refine J_exit ?_
    | refine seqQ_exit ?_
    | refine blockQ_hit ?_
    | refine blockQ_miss rfl ?_
    | refine J_skip ?_
    | refine J_ret ?_
    | refine seqQ_ret ?_
    | refine blockQ_ret ?_
    | refine loopQ_exit ?_
    | refine loopQ_ret ?_
    | refine J_label ?_
    | refine J_scope ?_
    | refine scopeQ_normal ?_
    | refine scopeQ_exit ?_
    | refine scopeQ_ret ?_
  refine J_condD rfl (fun h0 => ?_) (fun h0 => ?_)
  · repeat first
      | refine J_seq ?_
      | refine seqQ_normal ?_
      | refine J_condT rfl ?_
      | refine J_condF rfl ?_
      | refine J_block ?_
      | refine blockQ_normal ?_
      | refine J_exit ?_
      | refine seqQ_exit ?_
      | refine blockQ_hit ?_
      | refine blockQ_miss rfl ?_
      | refine J_skip ?_
      | refine J_ret ?_
      | refine seqQ_ret ?_
      | refine blockQ_ret ?_
      | refine loopQ_exit ?_
      | refine loopQ_ret ?_
      | refine J_label ?_
      | refine J_scope ?_
      | refine scopeQ_normal ?_
      | refine scopeQ_exit ?_
      | refine scopeQ_ret ?_
    refine J_region ?_
    refine L_o rfl rfl rfl (O_call [] [0,1] (awake_ok E) rfl rfl ?_)
    rintro _ _ ⟨rfl, rfl⟩
    refine JL.norm ?_
    refine L_q (Q_assign rfl) rfl rfl rfl ?_
    refine JL_nil ?_
    repeat first
      | refine J_seq ?_
      | refine seqQ_normal ?_
      | refine J_condT rfl ?_
      | refine J_condF rfl ?_
      | refine J_block ?_
      | refine blockQ_normal ?_
      | refine J_exit ?_
      | refine seqQ_exit ?_
      | refine blockQ_hit ?_
      | refine blockQ_miss rfl ?_
      | refine J_skip ?_
      | refine J_ret ?_
      | refine seqQ_ret ?_
      | refine blockQ_ret ?_
      | refine loopQ_exit ?_
      | refine loopQ_ret ?_
      | refine J_label ?_
      | refine J_scope ?_
      | refine scopeQ_normal ?_
      | refine scopeQ_exit ?_
      | refine scopeQ_ret ?_
    exact retQ_ret _ [] (.cons (RV_tmp rfl) .nil) ⟨rfl, rfl⟩ (Ent.re [1] rfl)
  have hl : l.length ≤ 200 := by omega
  repeat first
    | refine J_seq ?_
    | refine seqQ_normal ?_
    | refine J_condT rfl ?_
    | refine J_condF rfl ?_
    | refine J_block ?_
    | refine blockQ_normal ?_
    | refine J_exit ?_
    | refine seqQ_exit ?_
    | refine blockQ_hit ?_
    | refine blockQ_miss rfl ?_
    | refine J_skip ?_
    | refine J_ret ?_
    | refine seqQ_ret ?_
    | refine blockQ_ret ?_
    | refine loopQ_exit ?_
    | refine loopQ_ret ?_
    | refine J_label ?_
    | refine J_scope ?_
    | refine scopeQ_normal ?_
    | refine scopeQ_exit ?_
    | refine scopeQ_ret ?_
  refine J_region ?_
  refine L_q (Q_move rfl) rfl rfl rfl ?_
  refine L_o rfl rfl rfl (O_call [] [0,1] (wnew_ok E z) rfl rfl ?_)
  rintro _ _ ⟨p, r, rfl, rfl⟩
  refine JL.norm ?_
  refine L_q (Q_move rfl) rfl rfl rfl ?_
  refine L_o rfl rfl rfl (O_call [] [0,1,2,3] (rwnew_ok E z) rfl rfl ?_)
  rintro _ _ ⟨rfl, rfl⟩
  refine JL.norm ?_
  refine L_o rfl rfl rfl (O_alloc fun b6 => ?_)
  refine L_q (Q_assign rfl) rfl rfl rfl ?_
  first
    | refine L_s rfl rfl (O_stW 0 rfl rfl rfl rfl ?_)
    | refine L_s rfl rfl (O_stW 1 rfl rfl rfl rfl ?_)
    | refine L_s rfl rfl (O_stW 2 rfl rfl rfl rfl ?_)
    | refine L_s rfl rfl (O_stW 3 rfl rfl rfl rfl ?_)
    | refine L_s rfl rfl (O_stW 4 rfl rfl rfl rfl ?_)
    | refine L_s rfl rfl (O_stW 5 rfl rfl rfl rfl ?_)
    | refine L_s rfl rfl (O_stW 6 rfl rfl rfl rfl ?_)
    | refine L_s rfl rfl (O_stW 7 rfl rfl rfl rfl ?_)
    | refine L_s rfl rfl (O_stW 8 rfl rfl rfl rfl ?_)
    | refine L_s rfl rfl (O_stW 9 rfl rfl rfl rfl ?_)
  refine JL.norm ?_
  refine JL_nil ?_
  repeat first
    | refine J_seq ?_
    | refine seqQ_normal ?_
    | refine J_condT rfl ?_
    | refine J_condF rfl ?_
    | refine J_block ?_
    | refine blockQ_normal ?_
    | refine J_exit ?_
    | refine seqQ_exit ?_
    | refine blockQ_hit ?_
    | refine blockQ_miss rfl ?_
    | refine J_skip ?_
    | refine J_ret ?_
    | refine seqQ_ret ?_
    | refine blockQ_ret ?_
    | refine loopQ_exit ?_
    | refine loopQ_ret ?_
    | refine J_label ?_
    | refine J_scope ?_
    | refine scopeQ_normal ?_
    | refine scopeQ_exit ?_
    | refine scopeQ_ret ?_
  generalize winSize z = size at *
  repeat first
    | refine J_seq ?_
    | refine seqQ_normal ?_
    | refine J_condT rfl ?_
    | refine J_condF rfl ?_
    | refine J_block ?_
    | refine blockQ_normal ?_
    | refine J_exit ?_
    | refine seqQ_exit ?_
    | refine blockQ_hit ?_
    | refine blockQ_miss rfl ?_
    | refine J_skip ?_
    | refine J_ret ?_
    | refine seqQ_ret ?_
    | refine blockQ_ret ?_
    | refine loopQ_exit ?_
    | refine loopQ_ret ?_
    | refine J_label ?_
    | refine J_scope ?_
    | refine scopeQ_normal ?_
    | refine scopeQ_exit ?_
    | refine scopeQ_ret ?_
  refine J_region ?_
  refine L_q (Q_assign rfl) rfl rfl rfl ?_
  refine JL_nil ?_
  repeat first
    | refine J_seq ?_
    | refine seqQ_normal ?_
    | refine J_condT rfl ?_
    | refine J_condF rfl ?_
    | refine J_block ?_
    | refine blockQ_normal ?_
    | refine J_exit ?_
    | refine seqQ_exit ?_
    | refine blockQ_hit ?_
    | refine blockQ_miss rfl ?_
    | refine J_skip ?_
    | refine J_ret ?_
    | refine seqQ_ret ?_
    | refine blockQ_ret ?_
    | refine loopQ_exit ?_
    | refine loopQ_ret ?_
    | refine J_label ?_
    | refine J_scope ?_
    | refine scopeQ_normal ?_
    | refine scopeQ_exit ?_
    | refine scopeQ_ret ?_
  refine J.ent (Ent.mk fun _ _ h => (h.lay_nil tZ true : Sat _ _ (slc tZ true SV.nil [] :: _))) ?_
  refine J_loop (fun i : Nat × List (Int × Bool) × SV × List Int => i.1 ≤ l.length ∧ Beyond (baseOf i.2.2.2) i.2.1 i.2.2.2 ∧ (∀ x ∈ i.2.2.2, 0 ≤ x) ∧ i.2.2.2.length ≤ i.1)
    (fun i => [(1, S.v), (5, .pointer (some ⟨p, 0, none⟩)), (6, .pointer (some ⟨b6, 0, none⟩)), (7, .int .i64 (i.1 : Int))])
    (fun i => [winC p size (baseOf i.2.2.2) r, mpC mB r i.2.1, cel b6 [.int .i64 (size : Int), i.2.2.1.v] 27, slc tZ true i.2.2.1 i.2.2.2, slc tZ false S l, F]) (fun i => l.length - i.1) (0, [], SV.nil, []) ⟨by simp, Beyond.new, by simp, by simp⟩ ⟨rfl, rfl, rfl, rfl, trivial⟩ (Ent.re [2, 3, 1, 0, 4, 5] rfl) ?_
  rintro ⟨k, m, X, L⟩ ⟨hk, hB, hL, hLl⟩
  dsimp only at hk hB hL hLl ⊢
  repeat first
    | refine J_seq ?_
    | refine seqQ_normal ?_
    | refine J_condT rfl ?_
    | refine J_condF rfl ?_
    | refine J_block ?_
    | refine blockQ_normal ?_
    | refine J_exit ?_
    | refine seqQ_exit ?_
    | refine blockQ_hit ?_
    | refine blockQ_miss rfl ?_
    | refine J_skip ?_
    | refine J_ret ?_
    | refine seqQ_ret ?_
    | refine blockQ_ret ?_
    | refine loopQ_exit ?_
    | refine loopQ_ret ?_
    | refine J_label ?_
    | refine J_scope ?_
    | refine scopeQ_normal ?_
    | refine scopeQ_exit ?_
    | refine scopeQ_ret ?_
  refine J_region ?_
  refine L_q (Q_move rfl) rfl rfl rfl ?_
  refine L_q (Q_move rfl) rfl rfl rfl ?_
  first
    | refine L_q (Q_lenAt 0 rfl rfl) rfl rfl rfl ?_
    | refine L_q (Q_lenAt 1 rfl rfl) rfl rfl rfl ?_
    | refine L_q (Q_lenAt 2 rfl rfl) rfl rfl rfl ?_
    | refine L_q (Q_lenAt 3 rfl rfl) rfl rfl rfl ?_
    | refine L_q (Q_lenAt 4 rfl rfl) rfl rfl rfl ?_
    | refine L_q (Q_lenAt 5 rfl rfl) rfl rfl rfl ?_
    | refine L_q (Q_lenAt 6 rfl rfl) rfl rfl rfl ?_
    | refine L_q (Q_lenAt 7 rfl rfl) rfl rfl rfl ?_
    | refine L_q (Q_lenAt 8 rfl rfl) rfl rfl rfl ?_
    | refine L_q (Q_lenAt 9 rfl rfl) rfl rfl rfl ?_
  refine L_q (Q_lss rfl rfl) rfl rfl rfl ?_
  refine JL_nil ?_
  repeat first
    | refine J_seq ?_
    | refine seqQ_normal ?_
    | refine J_condT rfl ?_
    | refine J_condF rfl ?_
    | refine J_block ?_
    | refine blockQ_normal ?_
    | refine J_exit ?_
    | refine seqQ_exit ?_
    | refine blockQ_hit ?_
    | refine blockQ_miss rfl ?_
    | refine J_skip ?_
    | refine J_ret ?_
    | refine seqQ_ret ?_
    | refine blockQ_ret ?_
    | refine loopQ_exit ?_
    | refine loopQ_ret ?_
    | refine J_label ?_
    | refine J_scope ?_
    | refine scopeQ_normal ?_
    | refine scopeQ_exit ?_
    | refine scopeQ_ret ?_
  refine J_condD rfl (fun h => ?_) (fun h => ?_)
  · have hlt : k < l.length := by omega
    have hzk := hz l[k] (List.getElem_mem hlt)
    have hr := rwtake_ok E size X L l[k] hs2 (by omega) hzk
    have hp := wtake_ok E p size (baseOf L) r m L l[k] hB rfl hL (by omega) hs2 hzk
    have hL2 := takeL_nonneg (size := size) hL l[k]
    have hl2 := takeL_len size L l[k]
    generalize takeL size L l[k] = L2 at *
    generalize takeB size L l[k] = ok at *
    have b2 := fun X => rwbase_ok E size X L2 (by omega)
    have h2 := fun X => rwhas_ok E size X L2 l[k] (by omega)
    have h1 := fun m (hm : Beyond (baseOf L2) m L2) => whas_ok E p size (baseOf L2) r m L2 l[k] hm hL2
    repeat first
      | refine J_seq ?_
      | refine seqQ_normal ?_
      | refine J_condT rfl ?_
      | refine J_condF rfl ?_
      | refine J_block ?_
      | refine blockQ_normal ?_
      | refine J_exit ?_
      | refine seqQ_exit ?_
      | refine blockQ_hit ?_
      | refine blockQ_miss rfl ?_
      | refine J_skip ?_
      | refine J_ret ?_
      | refine seqQ_ret ?_
      | refine blockQ_ret ?_
      | refine loopQ_exit ?_
      | refine loopQ_ret ?_
      | refine J_label ?_
      | refine J_scope ?_
      | refine scopeQ_normal ?_
      | refine scopeQ_exit ?_
      | refine scopeQ_ret ?_
    refine J_drawH [2,4] [0, 1, 2, 3, 4, 6, 7, 8, 11] (.quiet 0 (.quiet 1 (.quiet 2 (.quiet 3 (.quiet 4 (.both 5 (.quiet 6 (.quiet 7 (.quiet 8 (.loud 9 (.loud 10 (.quiet 11 .done)))))) 9 (.loud 5 (.quiet 6 (.quiet 7 (.quiet 8 (.loud 10 (.quiet 11 .done)))))))))))) Try.mixed (by kernel_rfl) (by kernel_rfl) (by repeat (first | exact retQ_noP | refine seqQ_noP ?_ | refine blockQ_noP ?_ | refine loopQ_noP ?_ | refine scopeQ_noP ?_)) ?_
    first
      | refine S_q (Ent.re [2,4] rfl) rfl (Q_ldA 0 rfl rfl rfl) rfl rfl rfl ?_
      | refine S_q (Ent.re [2,4] rfl) rfl (Q_ldA 1 rfl rfl rfl) rfl rfl rfl ?_
      | refine S_q (Ent.re [2,4] rfl) rfl (Q_ldA 2 rfl rfl rfl) rfl rfl rfl ?_
      | refine S_q (Ent.re [2,4] rfl) rfl (Q_ldA 3 rfl rfl rfl) rfl rfl rfl ?_
      | refine S_q (Ent.re [2,4] rfl) rfl (Q_ldA 4 rfl rfl rfl) rfl rfl rfl ?_
      | refine S_q (Ent.re [2,4] rfl) rfl (Q_ldA 5 rfl rfl rfl) rfl rfl rfl ?_
      | refine S_q (Ent.re [2,4] rfl) rfl (Q_ldA 6 rfl rfl rfl) rfl rfl rfl ?_
      | refine S_q (Ent.re [2,4] rfl) rfl (Q_ldA 7 rfl rfl rfl) rfl rfl rfl ?_
      | refine S_q (Ent.re [2,4] rfl) rfl (Q_ldA 8 rfl rfl rfl) rfl rfl rfl ?_
      | refine S_q (Ent.re [2,4] rfl) rfl (Q_ldA 9 rfl rfl rfl) rfl rfl rfl ?_
    refine S_q (Ent.re [2,4] rfl) rfl (Q_move rfl) rfl rfl rfl ?_
    refine S_q (Ent.re [2,4] rfl) rfl (Q_move rfl) rfl rfl rfl ?_
    refine S_q (Ent.re [2,4] rfl) rfl (Q_ixAt 1 k rfl rfl rfl rfl hlt rfl) rfl rfl rfl ?_
    refine S_q (Ent.re [2,4] rfl) rfl (Q_ldEAt 1 k 0 (v := .int .i64 l[k]) rfl rfl rfl rfl hlt (by decide) rfl) rfl rfl rfl ?_
    refine S_both ?_ ?_
    · refine S_o rfl rfl rfl rfl (O_call [3] [0,1,2,4,5] hr rfl rfl ?_)
      (rintro _ _ ⟨X2, rfl, rfl⟩; refine ⟨_, fun _ => ⟨Ent.reN [3,4] rfl, Ent.refl _⟩, ?_⟩)
      refine JS.norm ?_
      refine S_q (Ent.re [3,4] rfl) rfl (Q_move rfl) rfl rfl rfl ?_
      refine S_q (Ent.re [3,4] rfl) rfl (Q_extract (v := refW size X2) rfl rfl) rfl rfl rfl ?_
      refine S_q (Ent.re [3,4] rfl) rfl (Q_extract (v := .bool ok) rfl rfl) rfl rfl rfl ?_
      refine S_o rfl rfl rfl rfl (O_alloc fun b8 => ⟨_, fun _ => ⟨Ent.reN [4,5] rfl, Ent.refl _⟩, ?_⟩)
      refine JS.norm ?_
      first
        | refine S_s rfl rfl rfl (O_stW 0 rfl rfl rfl rfl ⟨_, fun _ => ⟨Ent.reN [4,5] rfl, Ent.refl _⟩, ?_⟩)
        | refine S_s rfl rfl rfl (O_stW 1 rfl rfl rfl rfl ⟨_, fun _ => ⟨Ent.reN [4,5] rfl, Ent.refl _⟩, ?_⟩)
        | refine S_s rfl rfl rfl (O_stW 2 rfl rfl rfl rfl ⟨_, fun _ => ⟨Ent.reN [4,5] rfl, Ent.refl _⟩, ?_⟩)
        | refine S_s rfl rfl rfl (O_stW 3 rfl rfl rfl rfl ⟨_, fun _ => ⟨Ent.reN [4,5] rfl, Ent.refl _⟩, ?_⟩)
        | refine S_s rfl rfl rfl (O_stW 4 rfl rfl rfl rfl ⟨_, fun _ => ⟨Ent.reN [4,5] rfl, Ent.refl _⟩, ?_⟩)
        | refine S_s rfl rfl rfl (O_stW 5 rfl rfl rfl rfl ⟨_, fun _ => ⟨Ent.reN [4,5] rfl, Ent.refl _⟩, ?_⟩)
        | refine S_s rfl rfl rfl (O_stW 6 rfl rfl rfl rfl ⟨_, fun _ => ⟨Ent.reN [4,5] rfl, Ent.refl _⟩, ?_⟩)
        | refine S_s rfl rfl rfl (O_stW 7 rfl rfl rfl rfl ⟨_, fun _ => ⟨Ent.reN [4,5] rfl, Ent.refl _⟩, ?_⟩)
        | refine S_s rfl rfl rfl (O_stW 8 rfl rfl rfl rfl ⟨_, fun _ => ⟨Ent.reN [4,5] rfl, Ent.refl _⟩, ?_⟩)
        | refine S_s rfl rfl rfl (O_stW 9 rfl rfl rfl rfl ⟨_, fun _ => ⟨Ent.reN [4,5] rfl, Ent.refl _⟩, ?_⟩)
      refine JS.norm ?_
      refine S_q (Ent.re [4,5] rfl) rfl (Q_assign rfl) rfl rfl rfl ?_
      refine S_nil ?_
      repeat first
        | refine J_seq ?_
        | refine seqQ_normal ?_
        | refine J_condT rfl ?_
        | refine J_condF rfl ?_
        | refine J_block ?_
        | refine blockQ_normal ?_
        | refine J_exit ?_
        | refine seqQ_exit ?_
        | refine blockQ_hit ?_
        | refine blockQ_miss rfl ?_
        | refine J_skip ?_
        | refine J_ret ?_
        | refine seqQ_ret ?_
        | refine blockQ_ret ?_
        | refine loopQ_exit ?_
        | refine loopQ_ret ?_
        | refine J_label ?_
        | refine J_scope ?_
        | refine scopeQ_normal ?_
        | refine scopeQ_exit ?_
        | refine scopeQ_ret ?_
      repeat first
        | refine J_seq ?_
        | refine seqQ_normal ?_
        | refine J_condT rfl ?_
        | refine J_condF rfl ?_
        | refine J_block ?_
        | refine blockQ_normal ?_
        | refine J_exit ?_
        | refine seqQ_exit ?_
        | refine blockQ_hit ?_
        | refine blockQ_miss rfl ?_
        | refine J_skip ?_
        | refine J_ret ?_
        | refine seqQ_ret ?_
        | refine blockQ_ret ?_
        | refine loopQ_exit ?_
        | refine loopQ_ret ?_
        | refine J_label ?_
        | refine J_scope ?_
        | refine scopeQ_normal ?_
        | refine scopeQ_exit ?_
        | refine scopeQ_ret ?_
      refine J_region ?_
      first
        | refine L_q (Q_ldA 0 rfl rfl rfl) rfl rfl rfl ?_
        | refine L_q (Q_ldA 1 rfl rfl rfl) rfl rfl rfl ?_
        | refine L_q (Q_ldA 2 rfl rfl rfl) rfl rfl rfl ?_
        | refine L_q (Q_ldA 3 rfl rfl rfl) rfl rfl rfl ?_
        | refine L_q (Q_ldA 4 rfl rfl rfl) rfl rfl rfl ?_
        | refine L_q (Q_ldA 5 rfl rfl rfl) rfl rfl rfl ?_
        | refine L_q (Q_ldA 6 rfl rfl rfl) rfl rfl rfl ?_
        | refine L_q (Q_ldA 7 rfl rfl rfl) rfl rfl rfl ?_
        | refine L_q (Q_ldA 8 rfl rfl rfl) rfl rfl rfl ?_
        | refine L_q (Q_ldA 9 rfl rfl rfl) rfl rfl rfl ?_
      first
        | refine L_s rfl rfl (O_stW 0 rfl rfl rfl rfl ?_)
        | refine L_s rfl rfl (O_stW 1 rfl rfl rfl rfl ?_)
        | refine L_s rfl rfl (O_stW 2 rfl rfl rfl rfl ?_)
        | refine L_s rfl rfl (O_stW 3 rfl rfl rfl rfl ?_)
        | refine L_s rfl rfl (O_stW 4 rfl rfl rfl rfl ?_)
        | refine L_s rfl rfl (O_stW 5 rfl rfl rfl rfl ?_)
        | refine L_s rfl rfl (O_stW 6 rfl rfl rfl rfl ?_)
        | refine L_s rfl rfl (O_stW 7 rfl rfl rfl rfl ?_)
        | refine L_s rfl rfl (O_stW 8 rfl rfl rfl rfl ?_)
        | refine L_s rfl rfl (O_stW 9 rfl rfl rfl rfl ?_)
      refine JL.norm ?_
      refine JL_nil ?_
      repeat first
        | refine J_seq ?_
        | refine seqQ_normal ?_
        | refine J_condT rfl ?_
        | refine J_condF rfl ?_
        | refine J_block ?_
        | refine blockQ_normal ?_
        | refine J_exit ?_
        | refine seqQ_exit ?_
        | refine blockQ_hit ?_
        | refine blockQ_miss rfl ?_
        | refine J_skip ?_
        | refine J_ret ?_
        | refine seqQ_ret ?_
        | refine blockQ_ret ?_
        | refine loopQ_exit ?_
        | refine loopQ_ret ?_
        | refine J_label ?_
        | refine J_scope ?_
        | refine scopeQ_normal ?_
        | refine scopeQ_exit ?_
        | refine scopeQ_ret ?_
      repeat first
        | refine J_seq ?_
        | refine seqQ_normal ?_
        | refine J_condT rfl ?_
        | refine J_condF rfl ?_
        | refine J_block ?_
        | refine blockQ_normal ?_
        | refine J_exit ?_
        | refine seqQ_exit ?_
        | refine blockQ_hit ?_
        | refine blockQ_miss rfl ?_
        | refine J_skip ?_
        | refine J_ret ?_
        | refine seqQ_ret ?_
        | refine blockQ_ret ?_
        | refine loopQ_exit ?_
        | refine loopQ_ret ?_
        | refine J_label ?_
        | refine J_scope ?_
        | refine scopeQ_normal ?_
        | refine scopeQ_exit ?_
        | refine scopeQ_ret ?_
      refine J_drawH [4,5] [0, 1, 2, 3, 4, 6, 7, 8, 9, 11, 13, 14, 15, 16, 17, 18, 19, 20, 22, 23, 24, 25, 26, 28, 29] (.quiet 0 (.quiet 1 (.quiet 2 (.quiet 3 (.quiet 4 (.quiet 6 (.loud 5 (.quiet 7 (.quiet 8 (.quiet 9 (.quiet 11 (.loud 10 (.loud 12 (.quiet 13 (.quiet 14 (.quiet 15 (.quiet 16 (.quiet 17 (.quiet 18 (.quiet 19 (.quiet 20 (.quiet 22 (.quiet 23 (.quiet 24 (.quiet 25 (.quiet 26 (.loud 21 (.loud 27 (.quiet 28 (.quiet 29 .done)))))))))))))))))))))))))))))) Try.mixed (by kernel_rfl) (by kernel_rfl) (by repeat (first | exact retQ_noP | refine seqQ_noP ?_ | refine blockQ_noP ?_ | refine loopQ_noP ?_ | refine scopeQ_noP ?_)) ?_
      refine S_q (Ent.re [4,5] rfl) rfl (Q_move rfl) rfl rfl rfl ?_
      refine S_q (Ent.re [4,5] rfl) rfl (Q_move rfl) rfl rfl rfl ?_
      refine S_q (Ent.re [4,5] rfl) rfl (Q_move rfl) rfl rfl rfl ?_
      refine S_q (Ent.re [4,5] rfl) rfl (Q_ixAt 1 k rfl rfl rfl rfl hlt rfl) rfl rfl rfl ?_
      refine S_q (Ent.re [4,5] rfl) rfl (Q_ldEAt 1 k 0 (v := .int .i64 l[k]) rfl rfl rfl rfl hlt (by decide) rfl) rfl rfl rfl ?_
      refine S_q (Ent.re [4,5] rfl) rfl (Q_move rfl) rfl rfl rfl ?_
      refine S_o rfl rfl rfl rfl (O_call [2,3] [0,1,4,5,6] hp rfl rfl ?_)
      (rintro _ _ ⟨m2, rfl, hB2, rfl⟩; refine ⟨_, fun _ => ⟨Ent.reN [4,5] rfl, Ent.refl _⟩, ?_⟩)
      refine JS.norm ?_
      refine S_q (Ent.re [4,5] rfl) rfl ((Q_bneq rfl rfl).as (v' := .bool false) (congrArg Value.bool (by simp))) rfl rfl rfl ?_
      refine S_q (Ent.re [4,5] rfl) rfl (Q_move rfl) rfl rfl rfl ?_
      refine S_q (Ent.re [4,5] rfl) rfl (Q_move rfl) rfl rfl rfl ?_
      first
        | refine S_q (Ent.re [4,5] rfl) rfl (Q_ldA 0 rfl rfl rfl) rfl rfl rfl ?_
        | refine S_q (Ent.re [4,5] rfl) rfl (Q_ldA 1 rfl rfl rfl) rfl rfl rfl ?_
        | refine S_q (Ent.re [4,5] rfl) rfl (Q_ldA 2 rfl rfl rfl) rfl rfl rfl ?_
        | refine S_q (Ent.re [4,5] rfl) rfl (Q_ldA 3 rfl rfl rfl) rfl rfl rfl ?_
        | refine S_q (Ent.re [4,5] rfl) rfl (Q_ldA 4 rfl rfl rfl) rfl rfl rfl ?_
        | refine S_q (Ent.re [4,5] rfl) rfl (Q_ldA 5 rfl rfl rfl) rfl rfl rfl ?_
        | refine S_q (Ent.re [4,5] rfl) rfl (Q_ldA 6 rfl rfl rfl) rfl rfl rfl ?_
        | refine S_q (Ent.re [4,5] rfl) rfl (Q_ldA 7 rfl rfl rfl) rfl rfl rfl ?_
        | refine S_q (Ent.re [4,5] rfl) rfl (Q_ldA 8 rfl rfl rfl) rfl rfl rfl ?_
        | refine S_q (Ent.re [4,5] rfl) rfl (Q_ldA 9 rfl rfl rfl) rfl rfl rfl ?_
      refine S_o rfl rfl rfl rfl (O_call [0] [1,2,3,4,5,6] (wbase_ok E p size (baseOf L2) r) rfl rfl ?_)
      (rintro _ _ ⟨rfl, rfl⟩; refine ⟨_, fun _ => ⟨Ent.reN [4,5] rfl, Ent.refl _⟩, ?_⟩)
      refine JS.norm ?_
      refine S_o rfl rfl rfl rfl (O_call [3] [0,1,2,4,5,6] (b2 X2) rfl rfl ?_)
      (rintro _ _ ⟨rfl, rfl⟩; refine ⟨_, fun _ => ⟨Ent.reN [4,5] rfl, Ent.refl _⟩, ?_⟩)
      refine JS.norm ?_
      refine S_q (Ent.re [4,5] rfl) rfl ((Q_neq rfl rfl).as (v' := .bool false) (congrArg Value.bool (decide_eq_false (by simp)))) rfl rfl rfl ?_
      first
        | refine S_q (Ent.re [4,5] rfl) rfl (Q_pickT rfl rfl) rfl rfl rfl ?_
        | refine S_q (Ent.re [4,5] rfl) rfl (Q_pickF rfl rfl) rfl rfl rfl ?_
        | refine S_q (Ent.re [4,5] rfl) rfl (Q_pickB rfl rfl rfl) rfl rfl rfl ?_
      refine S_q (Ent.re [4,5] rfl) rfl (Q_move rfl) rfl rfl rfl ?_
      refine S_q (Ent.re [4,5] rfl) rfl (Q_move rfl) rfl rfl rfl ?_
      refine S_q (Ent.re [4,5] rfl) rfl (Q_move rfl) rfl rfl rfl ?_
      refine S_q (Ent.re [4,5] rfl) rfl (Q_move rfl) rfl rfl rfl ?_
      refine S_q (Ent.re [4,5] rfl) rfl (Q_ixAt 1 k rfl rfl rfl rfl hlt rfl) rfl rfl rfl ?_
      refine S_q (Ent.re [4,5] rfl) rfl (Q_ldEAt 1 k 0 (v := .int .i64 l[k]) rfl rfl rfl rfl hlt (by decide) rfl) rfl rfl rfl ?_
      first
        | refine S_q (Ent.re [4,5] rfl) rfl (Q_ldA 0 rfl rfl rfl) rfl rfl rfl ?_
        | refine S_q (Ent.re [4,5] rfl) rfl (Q_ldA 1 rfl rfl rfl) rfl rfl rfl ?_
        | refine S_q (Ent.re [4,5] rfl) rfl (Q_ldA 2 rfl rfl rfl) rfl rfl rfl ?_
        | refine S_q (Ent.re [4,5] rfl) rfl (Q_ldA 3 rfl rfl rfl) rfl rfl rfl ?_
        | refine S_q (Ent.re [4,5] rfl) rfl (Q_ldA 4 rfl rfl rfl) rfl rfl rfl ?_
        | refine S_q (Ent.re [4,5] rfl) rfl (Q_ldA 5 rfl rfl rfl) rfl rfl rfl ?_
        | refine S_q (Ent.re [4,5] rfl) rfl (Q_ldA 6 rfl rfl rfl) rfl rfl rfl ?_
        | refine S_q (Ent.re [4,5] rfl) rfl (Q_ldA 7 rfl rfl rfl) rfl rfl rfl ?_
        | refine S_q (Ent.re [4,5] rfl) rfl (Q_ldA 8 rfl rfl rfl) rfl rfl rfl ?_
        | refine S_q (Ent.re [4,5] rfl) rfl (Q_ldA 9 rfl rfl rfl) rfl rfl rfl ?_
      refine S_q (Ent.re [4,5] rfl) rfl (Q_move rfl) rfl rfl rfl ?_
      refine S_q (Ent.re [4,5] rfl) rfl (Q_move rfl) rfl rfl rfl ?_
      refine S_q (Ent.re [4,5] rfl) rfl (Q_ixAt 1 k rfl rfl rfl rfl hlt rfl) rfl rfl rfl ?_
      refine S_q (Ent.re [4,5] rfl) rfl (Q_ldEAt 1 k 0 (v := .int .i64 l[k]) rfl rfl rfl rfl hlt (by decide) rfl) rfl rfl rfl ?_
      refine S_o rfl rfl rfl rfl (O_call [1,2] [0,3,4,5,6] (h1 m2 hB2) rfl rfl ?_)
      (rintro _ _ ⟨rfl, rfl⟩; refine ⟨_, fun _ => ⟨Ent.reN [4,5] rfl, Ent.refl _⟩, ?_⟩)
      refine JS.norm ?_
      refine S_o rfl rfl rfl rfl (O_call [2] [0,1,3,4,5,6] (h2 X2) rfl rfl ?_)
      (rintro _ _ ⟨rfl, rfl⟩; refine ⟨_, fun _ => ⟨Ent.reN [4,5] rfl, Ent.refl _⟩, ?_⟩)
      refine JS.norm ?_
      refine S_q (Ent.re [4,5] rfl) rfl ((Q_bneq rfl rfl).as (v' := .bool false) (congrArg Value.bool (by simp))) rfl rfl rfl ?_
      first
        | refine S_q (Ent.re [4,5] rfl) rfl (Q_pickT rfl rfl) rfl rfl rfl ?_
        | refine S_q (Ent.re [4,5] rfl) rfl (Q_pickF rfl rfl) rfl rfl rfl ?_
        | refine S_q (Ent.re [4,5] rfl) rfl (Q_pickB rfl rfl rfl) rfl rfl rfl ?_
      refine S_nil ?_
      repeat first
        | refine J_seq ?_
        | refine seqQ_normal ?_
        | refine J_condT rfl ?_
        | refine J_condF rfl ?_
        | refine J_block ?_
        | refine blockQ_normal ?_
        | refine J_exit ?_
        | refine seqQ_exit ?_
        | refine blockQ_hit ?_
        | refine blockQ_miss rfl ?_
        | refine J_skip ?_
        | refine J_ret ?_
        | refine seqQ_ret ?_
        | refine blockQ_ret ?_
        | refine loopQ_exit ?_
        | refine loopQ_ret ?_
        | refine J_label ?_
        | refine J_scope ?_
        | refine scopeQ_normal ?_
        | refine scopeQ_exit ?_
        | refine scopeQ_ret ?_
      repeat first
        | refine J_seq ?_
        | refine seqQ_normal ?_
        | refine J_condT rfl ?_
        | refine J_condF rfl ?_
        | refine J_block ?_
        | refine blockQ_normal ?_
        | refine J_exit ?_
        | refine seqQ_exit ?_
        | refine blockQ_hit ?_
        | refine blockQ_miss rfl ?_
        | refine J_skip ?_
        | refine J_ret ?_
        | refine seqQ_ret ?_
        | refine blockQ_ret ?_
        | refine loopQ_exit ?_
        | refine loopQ_ret ?_
        | refine J_label ?_
        | refine J_scope ?_
        | refine scopeQ_normal ?_
        | refine scopeQ_exit ?_
        | refine scopeQ_ret ?_
      refine J_region ?_
      refine L_q (Q_move rfl) rfl rfl rfl ?_
      refine L_q (Q_add rfl rfl (by first | exact IntWalk.i64_in _ (by omega) | exact IntWalk.u8_in _ (by omega) | exact IntWalk.u32_in _ (by omega) | exact IntWalk.u64_in _ (by omega) | rfl)) rfl rfl rfl ?_
      refine L_q (Q_assign rfl) rfl rfl rfl ?_
      refine JL_nil ?_
      repeat first
        | refine J_seq ?_
        | refine seqQ_normal ?_
        | refine J_condT rfl ?_
        | refine J_condF rfl ?_
        | refine J_block ?_
        | refine blockQ_normal ?_
        | refine J_exit ?_
        | refine seqQ_exit ?_
        | refine blockQ_hit ?_
        | refine blockQ_miss rfl ?_
        | refine J_skip ?_
        | refine J_ret ?_
        | refine seqQ_ret ?_
        | refine blockQ_ret ?_
        | refine loopQ_exit ?_
        | refine loopQ_ret ?_
        | refine J_label ?_
        | refine J_scope ?_
        | refine scopeQ_normal ?_
        | refine scopeQ_exit ?_
        | refine scopeQ_ret ?_
      exact loopQ_normal (k + 1, m2, X2, L2) ⟨hlt, hB2, hL2, by simp only; omega⟩ (by simp only; omega) ⟨rfl, rfl, rfl, rfl, trivial⟩ (Ent.re [1, 2, 4, 0, 5, 6] rfl)
    · refine S_o rfl rfl rfl rfl (O_alloc fun b8 => ⟨_, fun _ => ⟨Ent.reN [3,5] rfl, Ent.refl _⟩, ?_⟩)
      refine JS.norm ?_
      refine S_o rfl rfl rfl rfl (O_call [4] [0,1,2,3,5,6] hr rfl rfl ?_)
      (rintro _ _ ⟨X2, rfl, rfl⟩; refine ⟨_, fun _ => ⟨Ent.reN [4,5] rfl, Ent.refl _⟩, ?_⟩)
      refine JS.norm ?_
      refine S_q (Ent.re [4,5] rfl) rfl (Q_move rfl) rfl rfl rfl ?_
      refine S_q (Ent.re [4,5] rfl) rfl (Q_extract (v := refW size X2) rfl rfl) rfl rfl rfl ?_
      refine S_q (Ent.re [4,5] rfl) rfl (Q_extract (v := .bool ok) rfl rfl) rfl rfl rfl ?_
      first
        | refine S_s rfl rfl rfl (O_stW 0 rfl rfl rfl rfl ⟨_, fun _ => ⟨Ent.reN [4,5] rfl, Ent.refl _⟩, ?_⟩)
        | refine S_s rfl rfl rfl (O_stW 1 rfl rfl rfl rfl ⟨_, fun _ => ⟨Ent.reN [4,5] rfl, Ent.refl _⟩, ?_⟩)
        | refine S_s rfl rfl rfl (O_stW 2 rfl rfl rfl rfl ⟨_, fun _ => ⟨Ent.reN [4,5] rfl, Ent.refl _⟩, ?_⟩)
        | refine S_s rfl rfl rfl (O_stW 3 rfl rfl rfl rfl ⟨_, fun _ => ⟨Ent.reN [4,5] rfl, Ent.refl _⟩, ?_⟩)
        | refine S_s rfl rfl rfl (O_stW 4 rfl rfl rfl rfl ⟨_, fun _ => ⟨Ent.reN [4,5] rfl, Ent.refl _⟩, ?_⟩)
        | refine S_s rfl rfl rfl (O_stW 5 rfl rfl rfl rfl ⟨_, fun _ => ⟨Ent.reN [4,5] rfl, Ent.refl _⟩, ?_⟩)
        | refine S_s rfl rfl rfl (O_stW 6 rfl rfl rfl rfl ⟨_, fun _ => ⟨Ent.reN [4,5] rfl, Ent.refl _⟩, ?_⟩)
        | refine S_s rfl rfl rfl (O_stW 7 rfl rfl rfl rfl ⟨_, fun _ => ⟨Ent.reN [4,5] rfl, Ent.refl _⟩, ?_⟩)
        | refine S_s rfl rfl rfl (O_stW 8 rfl rfl rfl rfl ⟨_, fun _ => ⟨Ent.reN [4,5] rfl, Ent.refl _⟩, ?_⟩)
        | refine S_s rfl rfl rfl (O_stW 9 rfl rfl rfl rfl ⟨_, fun _ => ⟨Ent.reN [4,5] rfl, Ent.refl _⟩, ?_⟩)
      refine JS.norm ?_
      refine S_q (Ent.re [4,5] rfl) rfl (Q_assign rfl) rfl rfl rfl ?_
      refine S_nil ?_
      repeat first
        | refine J_seq ?_
        | refine seqQ_normal ?_
        | refine J_condT rfl ?_
        | refine J_condF rfl ?_
        | refine J_block ?_
        | refine blockQ_normal ?_
        | refine J_exit ?_
        | refine seqQ_exit ?_
        | refine blockQ_hit ?_
        | refine blockQ_miss rfl ?_
        | refine J_skip ?_
        | refine J_ret ?_
        | refine seqQ_ret ?_
        | refine blockQ_ret ?_
        | refine loopQ_exit ?_
        | refine loopQ_ret ?_
        | refine J_label ?_
        | refine J_scope ?_
        | refine scopeQ_normal ?_
        | refine scopeQ_exit ?_
        | refine scopeQ_ret ?_
      repeat first
        | refine J_seq ?_
        | refine seqQ_normal ?_
        | refine J_condT rfl ?_
        | refine J_condF rfl ?_
        | refine J_block ?_
        | refine blockQ_normal ?_
        | refine J_exit ?_
        | refine seqQ_exit ?_
        | refine blockQ_hit ?_
        | refine blockQ_miss rfl ?_
        | refine J_skip ?_
        | refine J_ret ?_
        | refine seqQ_ret ?_
        | refine blockQ_ret ?_
        | refine loopQ_exit ?_
        | refine loopQ_ret ?_
        | refine J_label ?_
        | refine J_scope ?_
        | refine scopeQ_normal ?_
        | refine scopeQ_exit ?_
        | refine scopeQ_ret ?_
      refine J_region ?_
      first
        | refine L_q (Q_ldA 0 rfl rfl rfl) rfl rfl rfl ?_
        | refine L_q (Q_ldA 1 rfl rfl rfl) rfl rfl rfl ?_
        | refine L_q (Q_ldA 2 rfl rfl rfl) rfl rfl rfl ?_
        | refine L_q (Q_ldA 3 rfl rfl rfl) rfl rfl rfl ?_
        | refine L_q (Q_ldA 4 rfl rfl rfl) rfl rfl rfl ?_
        | refine L_q (Q_ldA 5 rfl rfl rfl) rfl rfl rfl ?_
        | refine L_q (Q_ldA 6 rfl rfl rfl) rfl rfl rfl ?_
        | refine L_q (Q_ldA 7 rfl rfl rfl) rfl rfl rfl ?_
        | refine L_q (Q_ldA 8 rfl rfl rfl) rfl rfl rfl ?_
        | refine L_q (Q_ldA 9 rfl rfl rfl) rfl rfl rfl ?_
      first
        | refine L_s rfl rfl (O_stW 0 rfl rfl rfl rfl ?_)
        | refine L_s rfl rfl (O_stW 1 rfl rfl rfl rfl ?_)
        | refine L_s rfl rfl (O_stW 2 rfl rfl rfl rfl ?_)
        | refine L_s rfl rfl (O_stW 3 rfl rfl rfl rfl ?_)
        | refine L_s rfl rfl (O_stW 4 rfl rfl rfl rfl ?_)
        | refine L_s rfl rfl (O_stW 5 rfl rfl rfl rfl ?_)
        | refine L_s rfl rfl (O_stW 6 rfl rfl rfl rfl ?_)
        | refine L_s rfl rfl (O_stW 7 rfl rfl rfl rfl ?_)
        | refine L_s rfl rfl (O_stW 8 rfl rfl rfl rfl ?_)
        | refine L_s rfl rfl (O_stW 9 rfl rfl rfl rfl ?_)
      refine JL.norm ?_
      refine JL_nil ?_
      repeat first
        | refine J_seq ?_
        | refine seqQ_normal ?_
        | refine J_condT rfl ?_
        | refine J_condF rfl ?_
        | refine J_block ?_
        | refine blockQ_normal ?_
        | refine J_exit ?_
        | refine seqQ_exit ?_
        | refine blockQ_hit ?_
        | refine blockQ_miss rfl ?_
        | refine J_skip ?_
        | refine J_ret ?_
        | refine seqQ_ret ?_
        | refine blockQ_ret ?_
        | refine loopQ_exit ?_
        | refine loopQ_ret ?_
        | refine J_label ?_
        | refine J_scope ?_
        | refine scopeQ_normal ?_
        | refine scopeQ_exit ?_
        | refine scopeQ_ret ?_
      repeat first
        | refine J_seq ?_
        | refine seqQ_normal ?_
        | refine J_condT rfl ?_
        | refine J_condF rfl ?_
        | refine J_block ?_
        | refine blockQ_normal ?_
        | refine J_exit ?_
        | refine seqQ_exit ?_
        | refine blockQ_hit ?_
        | refine blockQ_miss rfl ?_
        | refine J_skip ?_
        | refine J_ret ?_
        | refine seqQ_ret ?_
        | refine blockQ_ret ?_
        | refine loopQ_exit ?_
        | refine loopQ_ret ?_
        | refine J_label ?_
        | refine J_scope ?_
        | refine scopeQ_normal ?_
        | refine scopeQ_exit ?_
        | refine scopeQ_ret ?_
      refine J_drawH [4,5] [0, 1, 2, 3, 4, 6, 7, 8, 9, 11, 13, 14, 15, 16, 17, 18, 19, 20, 22, 23, 24, 25, 26, 28, 29] (.quiet 0 (.quiet 1 (.quiet 2 (.quiet 3 (.quiet 4 (.quiet 6 (.loud 5 (.quiet 7 (.quiet 8 (.quiet 9 (.quiet 11 (.loud 10 (.loud 12 (.quiet 13 (.quiet 14 (.quiet 15 (.quiet 16 (.quiet 17 (.quiet 18 (.quiet 19 (.quiet 20 (.quiet 22 (.quiet 23 (.quiet 24 (.quiet 25 (.quiet 26 (.loud 21 (.loud 27 (.quiet 28 (.quiet 29 .done)))))))))))))))))))))))))))))) Try.mixed (by kernel_rfl) (by kernel_rfl) (by repeat (first | exact retQ_noP | refine seqQ_noP ?_ | refine blockQ_noP ?_ | refine loopQ_noP ?_ | refine scopeQ_noP ?_)) ?_
      refine S_q (Ent.re [4,5] rfl) rfl (Q_move rfl) rfl rfl rfl ?_
      refine S_q (Ent.re [4,5] rfl) rfl (Q_move rfl) rfl rfl rfl ?_
      refine S_q (Ent.re [4,5] rfl) rfl (Q_move rfl) rfl rfl rfl ?_
      refine S_q (Ent.re [4,5] rfl) rfl (Q_ixAt 1 k rfl rfl rfl rfl hlt rfl) rfl rfl rfl ?_
      refine S_q (Ent.re [4,5] rfl) rfl (Q_ldEAt 1 k 0 (v := .int .i64 l[k]) rfl rfl rfl rfl hlt (by decide) rfl) rfl rfl rfl ?_
      refine S_q (Ent.re [4,5] rfl) rfl (Q_move rfl) rfl rfl rfl ?_
      refine S_o rfl rfl rfl rfl (O_call [2,3] [0,1,4,5,6] hp rfl rfl ?_)
      (rintro _ _ ⟨m2, rfl, hB2, rfl⟩; refine ⟨_, fun _ => ⟨Ent.reN [4,5] rfl, Ent.refl _⟩, ?_⟩)
      refine JS.norm ?_
      refine S_q (Ent.re [4,5] rfl) rfl ((Q_bneq rfl rfl).as (v' := .bool false) (congrArg Value.bool (by simp))) rfl rfl rfl ?_
      refine S_q (Ent.re [4,5] rfl) rfl (Q_move rfl) rfl rfl rfl ?_
      refine S_q (Ent.re [4,5] rfl) rfl (Q_move rfl) rfl rfl rfl ?_
      first
        | refine S_q (Ent.re [4,5] rfl) rfl (Q_ldA 0 rfl rfl rfl) rfl rfl rfl ?_
        | refine S_q (Ent.re [4,5] rfl) rfl (Q_ldA 1 rfl rfl rfl) rfl rfl rfl ?_
        | refine S_q (Ent.re [4,5] rfl) rfl (Q_ldA 2 rfl rfl rfl) rfl rfl rfl ?_
        | refine S_q (Ent.re [4,5] rfl) rfl (Q_ldA 3 rfl rfl rfl) rfl rfl rfl ?_
        | refine S_q (Ent.re [4,5] rfl) rfl (Q_ldA 4 rfl rfl rfl) rfl rfl rfl ?_
        | refine S_q (Ent.re [4,5] rfl) rfl (Q_ldA 5 rfl rfl rfl) rfl rfl rfl ?_
        | refine S_q (Ent.re [4,5] rfl) rfl (Q_ldA 6 rfl rfl rfl) rfl rfl rfl ?_
        | refine S_q (Ent.re [4,5] rfl) rfl (Q_ldA 7 rfl rfl rfl) rfl rfl rfl ?_
        | refine S_q (Ent.re [4,5] rfl) rfl (Q_ldA 8 rfl rfl rfl) rfl rfl rfl ?_
        | refine S_q (Ent.re [4,5] rfl) rfl (Q_ldA 9 rfl rfl rfl) rfl rfl rfl ?_
      refine S_o rfl rfl rfl rfl (O_call [0] [1,2,3,4,5,6] (wbase_ok E p size (baseOf L2) r) rfl rfl ?_)
      (rintro _ _ ⟨rfl, rfl⟩; refine ⟨_, fun _ => ⟨Ent.reN [4,5] rfl, Ent.refl _⟩, ?_⟩)
      refine JS.norm ?_
      refine S_o rfl rfl rfl rfl (O_call [2] [0,1,3,4,5,6] (b2 X2) rfl rfl ?_)
      (rintro _ _ ⟨rfl, rfl⟩; refine ⟨_, fun _ => ⟨Ent.reN [4,5] rfl, Ent.refl _⟩, ?_⟩)
      refine JS.norm ?_
      refine S_q (Ent.re [4,5] rfl) rfl ((Q_neq rfl rfl).as (v' := .bool false) (congrArg Value.bool (decide_eq_false (by simp)))) rfl rfl rfl ?_
      first
        | refine S_q (Ent.re [4,5] rfl) rfl (Q_pickT rfl rfl) rfl rfl rfl ?_
        | refine S_q (Ent.re [4,5] rfl) rfl (Q_pickF rfl rfl) rfl rfl rfl ?_
        | refine S_q (Ent.re [4,5] rfl) rfl (Q_pickB rfl rfl rfl) rfl rfl rfl ?_
      refine S_q (Ent.re [4,5] rfl) rfl (Q_move rfl) rfl rfl rfl ?_
      refine S_q (Ent.re [4,5] rfl) rfl (Q_move rfl) rfl rfl rfl ?_
      refine S_q (Ent.re [4,5] rfl) rfl (Q_move rfl) rfl rfl rfl ?_
      refine S_q (Ent.re [4,5] rfl) rfl (Q_move rfl) rfl rfl rfl ?_
      refine S_q (Ent.re [4,5] rfl) rfl (Q_ixAt 1 k rfl rfl rfl rfl hlt rfl) rfl rfl rfl ?_
      refine S_q (Ent.re [4,5] rfl) rfl (Q_ldEAt 1 k 0 (v := .int .i64 l[k]) rfl rfl rfl rfl hlt (by decide) rfl) rfl rfl rfl ?_
      first
        | refine S_q (Ent.re [4,5] rfl) rfl (Q_ldA 0 rfl rfl rfl) rfl rfl rfl ?_
        | refine S_q (Ent.re [4,5] rfl) rfl (Q_ldA 1 rfl rfl rfl) rfl rfl rfl ?_
        | refine S_q (Ent.re [4,5] rfl) rfl (Q_ldA 2 rfl rfl rfl) rfl rfl rfl ?_
        | refine S_q (Ent.re [4,5] rfl) rfl (Q_ldA 3 rfl rfl rfl) rfl rfl rfl ?_
        | refine S_q (Ent.re [4,5] rfl) rfl (Q_ldA 4 rfl rfl rfl) rfl rfl rfl ?_
        | refine S_q (Ent.re [4,5] rfl) rfl (Q_ldA 5 rfl rfl rfl) rfl rfl rfl ?_
        | refine S_q (Ent.re [4,5] rfl) rfl (Q_ldA 6 rfl rfl rfl) rfl rfl rfl ?_
        | refine S_q (Ent.re [4,5] rfl) rfl (Q_ldA 7 rfl rfl rfl) rfl rfl rfl ?_
        | refine S_q (Ent.re [4,5] rfl) rfl (Q_ldA 8 rfl rfl rfl) rfl rfl rfl ?_
        | refine S_q (Ent.re [4,5] rfl) rfl (Q_ldA 9 rfl rfl rfl) rfl rfl rfl ?_
      refine S_q (Ent.re [4,5] rfl) rfl (Q_move rfl) rfl rfl rfl ?_
      refine S_q (Ent.re [4,5] rfl) rfl (Q_move rfl) rfl rfl rfl ?_
      refine S_q (Ent.re [4,5] rfl) rfl (Q_ixAt 1 k rfl rfl rfl rfl hlt rfl) rfl rfl rfl ?_
      refine S_q (Ent.re [4,5] rfl) rfl (Q_ldEAt 1 k 0 (v := .int .i64 l[k]) rfl rfl rfl rfl hlt (by decide) rfl) rfl rfl rfl ?_
      refine S_o rfl rfl rfl rfl (O_call [1,2] [0,3,4,5,6] (h1 m2 hB2) rfl rfl ?_)
      (rintro _ _ ⟨rfl, rfl⟩; refine ⟨_, fun _ => ⟨Ent.reN [4,5] rfl, Ent.refl _⟩, ?_⟩)
      refine JS.norm ?_
      refine S_o rfl rfl rfl rfl (O_call [2] [0,1,3,4,5,6] (h2 X2) rfl rfl ?_)
      (rintro _ _ ⟨rfl, rfl⟩; refine ⟨_, fun _ => ⟨Ent.reN [4,5] rfl, Ent.refl _⟩, ?_⟩)
      refine JS.norm ?_
      refine S_q (Ent.re [4,5] rfl) rfl ((Q_bneq rfl rfl).as (v' := .bool false) (congrArg Value.bool (by simp))) rfl rfl rfl ?_
      first
        | refine S_q (Ent.re [4,5] rfl) rfl (Q_pickT rfl rfl) rfl rfl rfl ?_
        | refine S_q (Ent.re [4,5] rfl) rfl (Q_pickF rfl rfl) rfl rfl rfl ?_
        | refine S_q (Ent.re [4,5] rfl) rfl (Q_pickB rfl rfl rfl) rfl rfl rfl ?_
      refine S_nil ?_
      repeat first
        | refine J_seq ?_
        | refine seqQ_normal ?_
        | refine J_condT rfl ?_
        | refine J_condF rfl ?_
        | refine J_block ?_
        | refine blockQ_normal ?_
        | refine J_exit ?_
        | refine seqQ_exit ?_
        | refine blockQ_hit ?_
        | refine blockQ_miss rfl ?_
        | refine J_skip ?_
        | refine J_ret ?_
        | refine seqQ_ret ?_
        | refine blockQ_ret ?_
        | refine loopQ_exit ?_
        | refine loopQ_ret ?_
        | refine J_label ?_
        | refine J_scope ?_
        | refine scopeQ_normal ?_
        | refine scopeQ_exit ?_
        | refine scopeQ_ret ?_
      repeat first
        | refine J_seq ?_
        | refine seqQ_normal ?_
        | refine J_condT rfl ?_
        | refine J_condF rfl ?_
        | refine J_block ?_
        | refine blockQ_normal ?_
        | refine J_exit ?_
        | refine seqQ_exit ?_
        | refine blockQ_hit ?_
        | refine blockQ_miss rfl ?_
        | refine J_skip ?_
        | refine J_ret ?_
        | refine seqQ_ret ?_
        | refine blockQ_ret ?_
        | refine loopQ_exit ?_
        | refine loopQ_ret ?_
        | refine J_label ?_
        | refine J_scope ?_
        | refine scopeQ_normal ?_
        | refine scopeQ_exit ?_
        | refine scopeQ_ret ?_
      refine J_region ?_
      refine L_q (Q_move rfl) rfl rfl rfl ?_
      refine L_q (Q_add rfl rfl (by first | exact IntWalk.i64_in _ (by omega) | exact IntWalk.u8_in _ (by omega) | exact IntWalk.u32_in _ (by omega) | exact IntWalk.u64_in _ (by omega) | rfl)) rfl rfl rfl ?_
      refine L_q (Q_assign rfl) rfl rfl rfl ?_
      refine JL_nil ?_
      repeat first
        | refine J_seq ?_
        | refine seqQ_normal ?_
        | refine J_condT rfl ?_
        | refine J_condF rfl ?_
        | refine J_block ?_
        | refine blockQ_normal ?_
        | refine J_exit ?_
        | refine seqQ_exit ?_
        | refine blockQ_hit ?_
        | refine blockQ_miss rfl ?_
        | refine J_skip ?_
        | refine J_ret ?_
        | refine seqQ_ret ?_
        | refine blockQ_ret ?_
        | refine loopQ_exit ?_
        | refine loopQ_ret ?_
        | refine J_label ?_
        | refine J_scope ?_
        | refine scopeQ_normal ?_
        | refine scopeQ_exit ?_
        | refine scopeQ_ret ?_
      exact loopQ_normal (k + 1, m2, X2, L2) ⟨hlt, hB2, hL2, by simp only; omega⟩ (by simp only; omega) ⟨rfl, rfl, rfl, rfl, trivial⟩ (Ent.re [1, 2, 4, 0, 5, 6] rfl)
  · repeat first
      | refine J_seq ?_
      | refine seqQ_normal ?_
      | refine J_condT rfl ?_
      | refine J_condF rfl ?_
      | refine J_block ?_
      | refine blockQ_normal ?_
      | refine J_exit ?_
      | refine seqQ_exit ?_
      | refine blockQ_hit ?_
      | refine blockQ_miss rfl ?_
      | refine J_skip ?_
      | refine J_ret ?_
      | refine seqQ_ret ?_
      | refine blockQ_ret ?_
      | refine loopQ_exit ?_
      | refine loopQ_ret ?_
      | refine J_label ?_
      | refine J_scope ?_
      | refine scopeQ_normal ?_
      | refine scopeQ_exit ?_
      | refine scopeQ_ret ?_
    refine J_region ?_
    refine L_o rfl rfl rfl (O_call [] [0,1,2,3,4,5] (awake_ok E) rfl rfl ?_)
    rintro _ _ ⟨rfl, rfl⟩
    refine JL.norm ?_
    refine L_q (Q_assign rfl) rfl rfl rfl ?_
    refine JL_nil ?_
    repeat first
      | refine J_seq ?_
      | refine seqQ_normal ?_
      | refine J_condT rfl ?_
      | refine J_condF rfl ?_
      | refine J_block ?_
      | refine blockQ_normal ?_
      | refine J_exit ?_
      | refine seqQ_exit ?_
      | refine blockQ_hit ?_
      | refine blockQ_miss rfl ?_
      | refine J_skip ?_
      | refine J_ret ?_
      | refine seqQ_ret ?_
      | refine blockQ_ret ?_
      | refine loopQ_exit ?_
      | refine loopQ_ret ?_
      | refine J_label ?_
      | refine J_scope ?_
      | refine scopeQ_normal ?_
      | refine scopeQ_exit ?_
      | refine scopeQ_ret ?_
    exact retQ_ret _ [] (.cons (RV_tmp rfl) .nil) ⟨rfl, rfl⟩ (Ent.re [5] rfl)
def Win (size : Nat) (L : List Int) : Prop := ∀ x ∈ L, x < (baseOf L : Int) + size
theorem baseOf_mono (L : List Int) (z : Int) : baseOf L ≤ baseOf (L ++ [z]) := by
  obtain ⟨h1, h2⟩ := baseOf_ok L
  obtain ⟨h3, h4⟩ := baseOf_ok (L ++ [z])
  rcases Nat.lt_or_ge (baseOf (L ++ [z])) (baseOf L) with h | h
  · exact absurd (by simp [h1 _ h]) h4
  · exact h
theorem Win.take {size : Nat} {L : List Int} (h : Win size L) (z : Int) : Win size (takeL size L z) := by
  unfold takeL
  split
  · rename_i hb
    simp only [takeB, decide_eq_true_eq] at hb
    intro x hx
    have := baseOf_mono L z
    rw [List.mem_append, List.mem_singleton] at hx
    rcases hx with hx | rfl
    · have := h x hx; omega
    · omega
  · exact h
theorem takeL_has {size : Nat} {L : List Int} {z : Int} (h : takeB size L z = true) : z ∈ takeL size L z := by
  unfold takeL; rw [if_pos h]; simp
theorem takeB_not {size : Nat} {L : List Int} {z : Int} (h : takeB size L z = true) : z ∉ L := by
  simp only [takeB, decide_eq_true_eq] at h; exact h.1
theorem takeB_again (size : Nat) (L : List Int) (z : Int) : takeB size (takeL size L z) z = false := by
  cases h : takeB size L z with
  | true => have := takeL_has h; simp [takeB, this]
  | false => unfold takeL; rw [h]; simpa using h
theorem takeL_again (size : Nat) (L : List Int) (z : Int) : takeL size (takeL size L z) z = takeL size L z := by
  rw [takeL, takeB_again]; rfl
theorem takeL_t {size : Nat} {L : List Int} {z : Int} (h : takeB size L z = true) : (takeL size L z).length = L.length + 1 := by
  unfold takeL; rw [if_pos h]; simp
theorem takeL_f {size : Nat} {L : List Int} {z : Int} (h : takeB size L z = false) : takeL size L z = L := by
  unfold takeL; rw [h]; rfl
theorem once_calls (E : World) (z : Int) (S : SV) (l : List Int) (hz : ∀ x ∈ l, x ≤ 9223372036854775807) : Does Try.prog E 4 [.int .i64 z, S.v] [slc tZ false S l] fun v L => v = .bool true ∧ L = [] := by
  obtain ⟨hs1, hs2⟩ := winSize_le z
  refine Does.of Try.func4 rfl Try.ntmps4 rfl rfl fun F => ?_
  refine J.norm ?_
  repeat first
    | refine J_seq ?_
    | refine seqQ_normal ?_
    | refine J_condT rfl ?_
    | refine J_condF rfl ?_
    | refine J_block ?_
    | refine blockQ_normal ?_
    | refine J_exit ?_
    | refine seqQ_exit ?_
    | refine blockQ_hit ?_
    | refine blockQ_miss rfl ?_
    | refine J_skip ?_
    | refine J_ret ?_
    | refine seqQ_ret ?_
    | refine blockQ_ret ?_
    | refine loopQ_exit ?_
    | refine loopQ_ret ?_
    | refine J_label ?_
    | refine J_scope ?_
    | refine scopeQ_normal ?_
    | refine scopeQ_exit ?_
    | refine scopeQ_ret ?_
  refine J_region ?_
  refine L_q (Q_assign rfl) rfl rfl rfl ?_
  refine JL_nil ?_
  repeat first
    | refine J_seq ?_
    | refine seqQ_normal ?_
    | refine J_condT rfl ?_
    | refine J_condF rfl ?_
    | refine J_block ?_
    | refine blockQ_normal ?_
    | refine J_exit ?_
    | refine seqQ_exit ?_
    | refine blockQ_hit ?_
    | refine blockQ_miss rfl ?_
    | refine J_skip ?_
    | refine J_ret ?_
    | refine seqQ_ret ?_
    | refine blockQ_ret ?_
    | refine loopQ_exit ?_
    | refine loopQ_ret ?_
    | refine J_label ?_
    | refine J_scope ?_
    | refine scopeQ_normal ?_
    | refine scopeQ_exit ?_
    | refine scopeQ_ret ?_
  repeat first
    | refine J_seq ?_
    | refine seqQ_normal ?_
    | refine J_condT rfl ?_
    | refine J_condF rfl ?_
    | refine J_block ?_
    | refine blockQ_normal ?_
    | refine J_exit ?_
    | refine seqQ_exit ?_
    | refine blockQ_hit ?_
    | refine blockQ_miss rfl ?_
    | refine J_skip ?_
    | refine J_ret ?_
    | refine seqQ_ret ?_
    | refine blockQ_ret ?_
    | refine loopQ_exit ?_
    | refine loopQ_ret ?_
    | refine J_label ?_
    | refine J_scope ?_
    | refine scopeQ_normal ?_
    | refine scopeQ_exit ?_
    | refine scopeQ_ret ?_
  refine J_region ?_
  refine L_q (Q_move rfl) rfl rfl rfl ?_
  first
    | refine L_q (Q_lenAt 0 rfl rfl) rfl rfl rfl ?_
    | refine L_q (Q_lenAt 1 rfl rfl) rfl rfl rfl ?_
    | refine L_q (Q_lenAt 2 rfl rfl) rfl rfl rfl ?_
    | refine L_q (Q_lenAt 3 rfl rfl) rfl rfl rfl ?_
    | refine L_q (Q_lenAt 4 rfl rfl) rfl rfl rfl ?_
    | refine L_q (Q_lenAt 5 rfl rfl) rfl rfl rfl ?_
    | refine L_q (Q_lenAt 6 rfl rfl) rfl rfl rfl ?_
    | refine L_q (Q_lenAt 7 rfl rfl) rfl rfl rfl ?_
    | refine L_q (Q_lenAt 8 rfl rfl) rfl rfl rfl ?_
    | refine L_q (Q_lenAt 9 rfl rfl) rfl rfl rfl ?_
  refine L_q (Q_gtr rfl rfl) rfl rfl rfl ?_
  refine JL_nil ?_
  repeat first
    | refine J_seq ?_
    | refine seqQ_normal ?_
    | refine J_condT rfl ?_
    | refine J_condF rfl ?_
    | refine J_block ?_
    | refine blockQ_normal ?_
    | refine J_exit ?_
    | refine seqQ_exit ?_
    | refine blockQ_hit ?_
    | refine blockQ_miss rfl ?_
    | refine J_skip ?_
    | refine J_ret ?_
    | refine seqQ_ret ?_
    | refine blockQ_ret ?_
    | refine loopQ_exit ?_
    | refine loopQ_ret ?_
    | refine J_label ?_
    | refine J_scope ?_
    | refine scopeQ_normal ?_
    | refine scopeQ_exit ?_
    | refine scopeQ_ret ?_
  refine J_condD rfl (fun h0 => ?_) (fun h0 => ?_)
  · repeat first
      | refine J_seq ?_
      | refine seqQ_normal ?_
      | refine J_condT rfl ?_
      | refine J_condF rfl ?_
      | refine J_block ?_
      | refine blockQ_normal ?_
      | refine J_exit ?_
      | refine seqQ_exit ?_
      | refine blockQ_hit ?_
      | refine blockQ_miss rfl ?_
      | refine J_skip ?_
      | refine J_ret ?_
      | refine seqQ_ret ?_
      | refine blockQ_ret ?_
      | refine loopQ_exit ?_
      | refine loopQ_ret ?_
      | refine J_label ?_
      | refine J_scope ?_
      | refine scopeQ_normal ?_
      | refine scopeQ_exit ?_
      | refine scopeQ_ret ?_
    refine J_region ?_
    refine L_o rfl rfl rfl (O_call [] [0,1] (awake_ok E) rfl rfl ?_)
    rintro _ _ ⟨rfl, rfl⟩
    refine JL.norm ?_
    refine L_q (Q_assign rfl) rfl rfl rfl ?_
    refine JL_nil ?_
    repeat first
      | refine J_seq ?_
      | refine seqQ_normal ?_
      | refine J_condT rfl ?_
      | refine J_condF rfl ?_
      | refine J_block ?_
      | refine blockQ_normal ?_
      | refine J_exit ?_
      | refine seqQ_exit ?_
      | refine blockQ_hit ?_
      | refine blockQ_miss rfl ?_
      | refine J_skip ?_
      | refine J_ret ?_
      | refine seqQ_ret ?_
      | refine blockQ_ret ?_
      | refine loopQ_exit ?_
      | refine loopQ_ret ?_
      | refine J_label ?_
      | refine J_scope ?_
      | refine scopeQ_normal ?_
      | refine scopeQ_exit ?_
      | refine scopeQ_ret ?_
    exact retQ_ret _ [] (.cons (RV_tmp rfl) .nil) ⟨rfl, rfl⟩ (Ent.re [1] rfl)
  have hl : l.length ≤ 200 := by omega
  repeat first
    | refine J_seq ?_
    | refine seqQ_normal ?_
    | refine J_condT rfl ?_
    | refine J_condF rfl ?_
    | refine J_block ?_
    | refine blockQ_normal ?_
    | refine J_exit ?_
    | refine seqQ_exit ?_
    | refine blockQ_hit ?_
    | refine blockQ_miss rfl ?_
    | refine J_skip ?_
    | refine J_ret ?_
    | refine seqQ_ret ?_
    | refine blockQ_ret ?_
    | refine loopQ_exit ?_
    | refine loopQ_ret ?_
    | refine J_label ?_
    | refine J_scope ?_
    | refine scopeQ_normal ?_
    | refine scopeQ_exit ?_
    | refine scopeQ_ret ?_
  refine J_region ?_
  refine L_q (Q_move rfl) rfl rfl rfl ?_
  refine L_o rfl rfl rfl (O_call [] [0,1] (wnew_ok E z) rfl rfl ?_)
  rintro _ _ ⟨p, r, rfl, rfl⟩
  refine JL.norm ?_
  refine L_q (Q_assign rfl) rfl rfl rfl ?_
  refine JL_nil ?_
  repeat first
    | refine J_seq ?_
    | refine seqQ_normal ?_
    | refine J_condT rfl ?_
    | refine J_condF rfl ?_
    | refine J_block ?_
    | refine blockQ_normal ?_
    | refine J_exit ?_
    | refine seqQ_exit ?_
    | refine blockQ_hit ?_
    | refine blockQ_miss rfl ?_
    | refine J_skip ?_
    | refine J_ret ?_
    | refine seqQ_ret ?_
    | refine blockQ_ret ?_
    | refine loopQ_exit ?_
    | refine loopQ_ret ?_
    | refine J_label ?_
    | refine J_scope ?_
    | refine scopeQ_normal ?_
    | refine scopeQ_exit ?_
    | refine scopeQ_ret ?_
  generalize winSize z = size at *
  repeat first
    | refine J_seq ?_
    | refine seqQ_normal ?_
    | refine J_condT rfl ?_
    | refine J_condF rfl ?_
    | refine J_block ?_
    | refine blockQ_normal ?_
    | refine J_exit ?_
    | refine seqQ_exit ?_
    | refine blockQ_hit ?_
    | refine blockQ_miss rfl ?_
    | refine J_skip ?_
    | refine J_ret ?_
    | refine seqQ_ret ?_
    | refine blockQ_ret ?_
    | refine loopQ_exit ?_
    | refine loopQ_ret ?_
    | refine J_label ?_
    | refine J_scope ?_
    | refine scopeQ_normal ?_
    | refine scopeQ_exit ?_
    | refine scopeQ_ret ?_
  refine J_region ?_
  refine L_q (Q_assign rfl) rfl rfl rfl ?_
  refine JL_nil ?_
  repeat first
    | refine J_seq ?_
    | refine seqQ_normal ?_
    | refine J_condT rfl ?_
    | refine J_condF rfl ?_
    | refine J_block ?_
    | refine blockQ_normal ?_
    | refine J_exit ?_
    | refine seqQ_exit ?_
    | refine blockQ_hit ?_
    | refine blockQ_miss rfl ?_
    | refine J_skip ?_
    | refine J_ret ?_
    | refine seqQ_ret ?_
    | refine blockQ_ret ?_
    | refine loopQ_exit ?_
    | refine loopQ_ret ?_
    | refine J_label ?_
    | refine J_scope ?_
    | refine scopeQ_normal ?_
    | refine scopeQ_exit ?_
    | refine scopeQ_ret ?_
  repeat first
    | refine J_seq ?_
    | refine seqQ_normal ?_
    | refine J_condT rfl ?_
    | refine J_condF rfl ?_
    | refine J_block ?_
    | refine blockQ_normal ?_
    | refine J_exit ?_
    | refine seqQ_exit ?_
    | refine blockQ_hit ?_
    | refine blockQ_miss rfl ?_
    | refine J_skip ?_
    | refine J_ret ?_
    | refine seqQ_ret ?_
    | refine blockQ_ret ?_
    | refine loopQ_exit ?_
    | refine loopQ_ret ?_
    | refine J_label ?_
    | refine J_scope ?_
    | refine scopeQ_normal ?_
    | refine scopeQ_exit ?_
    | refine scopeQ_ret ?_
  refine J_region ?_
  refine L_q (Q_assign rfl) rfl rfl rfl ?_
  refine JL_nil ?_
  repeat first
    | refine J_seq ?_
    | refine seqQ_normal ?_
    | refine J_condT rfl ?_
    | refine J_condF rfl ?_
    | refine J_block ?_
    | refine blockQ_normal ?_
    | refine J_exit ?_
    | refine seqQ_exit ?_
    | refine blockQ_hit ?_
    | refine blockQ_miss rfl ?_
    | refine J_skip ?_
    | refine J_ret ?_
    | refine seqQ_ret ?_
    | refine blockQ_ret ?_
    | refine loopQ_exit ?_
    | refine loopQ_ret ?_
    | refine J_label ?_
    | refine J_scope ?_
    | refine scopeQ_normal ?_
    | refine scopeQ_exit ?_
    | refine scopeQ_ret ?_
  refine J_loop (fun i : Nat × List (Int × Bool) × List Int => i.1 ≤ l.length ∧ Beyond (baseOf i.2.2) i.2.1 i.2.2 ∧ (∀ x ∈ i.2.2, 0 ≤ x) ∧ i.2.2.length ≤ i.1 ∧ Win size i.2.2)
    (fun i => [(1, S.v), (5, .pointer (some ⟨p, 0, none⟩)), (6, .int .i64 (i.2.2.length : Int)), (7, .int .i64 (i.1 : Int))])
    (fun i => [winC p size (baseOf i.2.2) r, mpC mB r i.2.1, slc tZ false S l, F]) (fun i => l.length - i.1) (0, [], []) ⟨by simp, Beyond.new, by simp, by simp, by simp [Win]⟩ ⟨rfl, rfl, rfl, rfl, trivial⟩ (Ent.refl _) ?_
  rintro ⟨k, m, L⟩ ⟨hk, hB, hL, hLl, hW⟩
  dsimp only at hk hB hL hLl hW ⊢
  repeat first
    | refine J_seq ?_
    | refine seqQ_normal ?_
    | refine J_condT rfl ?_
    | refine J_condF rfl ?_
    | refine J_block ?_
    | refine blockQ_normal ?_
    | refine J_exit ?_
    | refine seqQ_exit ?_
    | refine blockQ_hit ?_
    | refine blockQ_miss rfl ?_
    | refine J_skip ?_
    | refine J_ret ?_
    | refine seqQ_ret ?_
    | refine blockQ_ret ?_
    | refine loopQ_exit ?_
    | refine loopQ_ret ?_
    | refine J_label ?_
    | refine J_scope ?_
    | refine scopeQ_normal ?_
    | refine scopeQ_exit ?_
    | refine scopeQ_ret ?_
  refine J_region ?_
  refine L_q (Q_move rfl) rfl rfl rfl ?_
  refine L_q (Q_move rfl) rfl rfl rfl ?_
  first
    | refine L_q (Q_lenAt 0 rfl rfl) rfl rfl rfl ?_
    | refine L_q (Q_lenAt 1 rfl rfl) rfl rfl rfl ?_
    | refine L_q (Q_lenAt 2 rfl rfl) rfl rfl rfl ?_
    | refine L_q (Q_lenAt 3 rfl rfl) rfl rfl rfl ?_
    | refine L_q (Q_lenAt 4 rfl rfl) rfl rfl rfl ?_
    | refine L_q (Q_lenAt 5 rfl rfl) rfl rfl rfl ?_
    | refine L_q (Q_lenAt 6 rfl rfl) rfl rfl rfl ?_
    | refine L_q (Q_lenAt 7 rfl rfl) rfl rfl rfl ?_
    | refine L_q (Q_lenAt 8 rfl rfl) rfl rfl rfl ?_
    | refine L_q (Q_lenAt 9 rfl rfl) rfl rfl rfl ?_
  refine L_q (Q_lss rfl rfl) rfl rfl rfl ?_
  refine JL_nil ?_
  repeat first
    | refine J_seq ?_
    | refine seqQ_normal ?_
    | refine J_condT rfl ?_
    | refine J_condF rfl ?_
    | refine J_block ?_
    | refine blockQ_normal ?_
    | refine J_exit ?_
    | refine seqQ_exit ?_
    | refine blockQ_hit ?_
    | refine blockQ_miss rfl ?_
    | refine J_skip ?_
    | refine J_ret ?_
    | refine seqQ_ret ?_
    | refine blockQ_ret ?_
    | refine loopQ_exit ?_
    | refine loopQ_ret ?_
    | refine J_label ?_
    | refine J_scope ?_
    | refine scopeQ_normal ?_
    | refine scopeQ_exit ?_
    | refine scopeQ_ret ?_
  refine J_condD rfl (fun h => ?_) (fun h => ?_)
  · have hlt : k < l.length := by omega
    have hzk := hz l[k] (List.getElem_mem hlt)
    have hh1 := whas_ok E p size (baseOf L) r m L l[k] hB hL
    have hp := wtake_ok E p size (baseOf L) r m L l[k] hB rfl hL (by omega) hs2 hzk
    have hL2 := takeL_nonneg (size := size) hL l[k]
    have hl2 := takeL_len size L l[k]
    have hW2 := hW.take l[k]
    have hag := takeB_again size L l[k]
    have hag2 := takeL_again size L l[k]
    have hh2 := fun m (hm : Beyond (baseOf (takeL size L l[k])) m (takeL size L l[k])) => whas_ok E p size _ r m _ l[k] hm hL2
    have hp2 := fun m (hm : Beyond (baseOf (takeL size L l[k])) m (takeL size L l[k])) => wtake_ok E p size _ r m _ l[k] hm rfl hL2 (by omega) hs2 hzk
    rw [hag2, hag] at hp2
    repeat first
      | refine J_seq ?_
      | refine seqQ_normal ?_
      | refine J_condT rfl ?_
      | refine J_condF rfl ?_
      | refine J_block ?_
      | refine blockQ_normal ?_
      | refine J_exit ?_
      | refine seqQ_exit ?_
      | refine blockQ_hit ?_
      | refine blockQ_miss rfl ?_
      | refine J_skip ?_
      | refine J_ret ?_
      | refine seqQ_ret ?_
      | refine blockQ_ret ?_
      | refine loopQ_exit ?_
      | refine loopQ_ret ?_
      | refine J_label ?_
      | refine J_scope ?_
      | refine scopeQ_normal ?_
      | refine scopeQ_exit ?_
      | refine scopeQ_ret ?_
    refine J_region ?_
    refine L_q (Q_move rfl) rfl rfl rfl ?_
    refine L_q (Q_move rfl) rfl rfl rfl ?_
    refine L_q (Q_move rfl) rfl rfl rfl ?_
    refine L_q (Q_ixAt 2 k rfl rfl rfl rfl hlt rfl) rfl rfl rfl ?_
    refine L_q (Q_ldEAt 2 k 0 (v := .int .i64 l[k]) rfl rfl rfl rfl hlt (by decide) rfl) rfl rfl rfl ?_
    refine L_o rfl rfl rfl (O_call [0,1] [2,3] hh1 rfl rfl ?_)
    rintro _ _ ⟨rfl, rfl⟩
    refine JL.norm ?_
    refine L_q (Q_assign rfl) rfl rfl rfl ?_
    refine JL_nil ?_
    repeat first
      | refine J_seq ?_
      | refine seqQ_normal ?_
      | refine J_condT rfl ?_
      | refine J_condF rfl ?_
      | refine J_block ?_
      | refine blockQ_normal ?_
      | refine J_exit ?_
      | refine seqQ_exit ?_
      | refine blockQ_hit ?_
      | refine blockQ_miss rfl ?_
      | refine J_skip ?_
      | refine J_ret ?_
      | refine seqQ_ret ?_
      | refine blockQ_ret ?_
      | refine loopQ_exit ?_
      | refine loopQ_ret ?_
      | refine J_label ?_
      | refine J_scope ?_
      | refine scopeQ_normal ?_
      | refine scopeQ_exit ?_
      | refine scopeQ_ret ?_
    repeat first
      | refine J_seq ?_
      | refine seqQ_normal ?_
      | refine J_condT rfl ?_
      | refine J_condF rfl ?_
      | refine J_block ?_
      | refine blockQ_normal ?_
      | refine J_exit ?_
      | refine seqQ_exit ?_
      | refine blockQ_hit ?_
      | refine blockQ_miss rfl ?_
      | refine J_skip ?_
      | refine J_ret ?_
      | refine seqQ_ret ?_
      | refine blockQ_ret ?_
      | refine loopQ_exit ?_
      | refine loopQ_ret ?_
      | refine J_label ?_
      | refine J_scope ?_
      | refine scopeQ_normal ?_
      | refine scopeQ_exit ?_
      | refine scopeQ_ret ?_
    refine J_region ?_
    refine L_q (Q_move rfl) rfl rfl rfl ?_
    refine L_q (Q_move rfl) rfl rfl rfl ?_
    refine L_q (Q_move rfl) rfl rfl rfl ?_
    refine L_q (Q_ixAt 2 k rfl rfl rfl rfl hlt rfl) rfl rfl rfl ?_
    refine L_q (Q_ldEAt 2 k 0 (v := .int .i64 l[k]) rfl rfl rfl rfl hlt (by decide) rfl) rfl rfl rfl ?_
    refine L_o rfl rfl rfl (O_call [0,1] [2,3] hp rfl rfl ?_)
    rintro _ _ ⟨m2, rfl, hB2, rfl⟩
    refine JL.norm ?_
    refine L_q (Q_assign rfl) rfl rfl rfl ?_
    refine JL_nil ?_
    repeat first
      | refine J_seq ?_
      | refine seqQ_normal ?_
      | refine J_condT rfl ?_
      | refine J_condF rfl ?_
      | refine J_block ?_
      | refine blockQ_normal ?_
      | refine J_exit ?_
      | refine seqQ_exit ?_
      | refine blockQ_hit ?_
      | refine blockQ_miss rfl ?_
      | refine J_skip ?_
      | refine J_ret ?_
      | refine seqQ_ret ?_
      | refine blockQ_ret ?_
      | refine loopQ_exit ?_
      | refine loopQ_ret ?_
      | refine J_label ?_
      | refine J_scope ?_
      | refine scopeQ_normal ?_
      | refine scopeQ_exit ?_
      | refine scopeQ_ret ?_
    cases hb : takeB size L l[k] with
    | true =>
      have hnot := takeB_not hb
      have hin := takeL_has hb
      have hlen := takeL_t hb
      rw [show decide (l[k] ∈ L) = false from decide_eq_false hnot]
      rw [show decide (l[k] ∈ takeL size L l[k]) = true from decide_eq_true hin] at hh2
      generalize takeL size L l[k] = L2 at *
      repeat first
        | refine J_seq ?_
        | refine seqQ_normal ?_
        | refine J_condT rfl ?_
        | refine J_condF rfl ?_
        | refine J_block ?_
        | refine blockQ_normal ?_
        | refine J_exit ?_
        | refine seqQ_exit ?_
        | refine blockQ_hit ?_
        | refine blockQ_miss rfl ?_
        | refine J_skip ?_
        | refine J_ret ?_
        | refine seqQ_ret ?_
        | refine blockQ_ret ?_
        | refine loopQ_exit ?_
        | refine loopQ_ret ?_
        | refine J_label ?_
        | refine J_scope ?_
        | refine scopeQ_normal ?_
        | refine scopeQ_exit ?_
        | refine scopeQ_ret ?_
      refine J_region ?_
      refine L_q (Q_move rfl) rfl rfl rfl ?_
      refine L_q (Q_move rfl) rfl rfl rfl ?_
      refine L_q (Q_move rfl) rfl rfl rfl ?_
      refine L_q (Q_move rfl) rfl rfl rfl ?_
      refine L_q (Q_move rfl) rfl rfl rfl ?_
      refine L_q (Q_move rfl) rfl rfl rfl ?_
      refine L_q (Q_move rfl) rfl rfl rfl ?_
      refine L_q (Q_ixAt 2 k rfl rfl rfl rfl hlt rfl) rfl rfl rfl ?_
      refine L_q (Q_ldEAt 2 k 0 (v := .int .i64 l[k]) rfl rfl rfl rfl hlt (by decide) rfl) rfl rfl rfl ?_
      refine L_o rfl rfl rfl (O_call [0,1] [2,3] (hh2 m2 hB2) rfl rfl ?_)
      rintro _ _ ⟨rfl, rfl⟩
      refine JL.norm ?_
      first
        | refine L_q (Q_notD rfl) rfl rfl rfl ?_
        | refine L_q (Q_not rfl) rfl rfl rfl ?_
      first
        | refine L_q (Q_pickT rfl rfl) rfl rfl rfl ?_
        | refine L_q (Q_pickF rfl rfl) rfl rfl rfl ?_
        | refine L_q (Q_pickB rfl rfl rfl) rfl rfl rfl ?_
      first
        | refine L_q (Q_pickT rfl rfl) rfl rfl rfl ?_
        | refine L_q (Q_pickF rfl rfl) rfl rfl rfl ?_
        | refine L_q (Q_pickB rfl rfl rfl) rfl rfl rfl ?_
      refine L_q (Q_move rfl) rfl rfl rfl ?_
      refine L_q (Q_move rfl) rfl rfl rfl ?_
      refine L_q (Q_move rfl) rfl rfl rfl ?_
      refine L_q (Q_move rfl) rfl rfl rfl ?_
      refine L_q (Q_ixAt 2 k rfl rfl rfl rfl hlt rfl) rfl rfl rfl ?_
      refine L_q (Q_ldEAt 2 k 0 (v := .int .i64 l[k]) rfl rfl rfl rfl hlt (by decide) rfl) rfl rfl rfl ?_
      refine L_o rfl rfl rfl (O_call [0,1] [2,3] (hp2 m2 hB2) rfl rfl ?_)
      rintro _ _ ⟨m3, rfl, hB3, rfl⟩
      refine JL.norm ?_
      first
        | refine L_q (Q_pickT rfl rfl) rfl rfl rfl ?_
        | refine L_q (Q_pickF rfl rfl) rfl rfl rfl ?_
        | refine L_q (Q_pickB rfl rfl rfl) rfl rfl rfl ?_
      refine JL_nil ?_
      repeat first
        | refine J_seq ?_
        | refine seqQ_normal ?_
        | refine J_condT rfl ?_
        | refine J_condF rfl ?_
        | refine J_block ?_
        | refine blockQ_normal ?_
        | refine J_exit ?_
        | refine seqQ_exit ?_
        | refine blockQ_hit ?_
        | refine blockQ_miss rfl ?_
        | refine J_skip ?_
        | refine J_ret ?_
        | refine seqQ_ret ?_
        | refine blockQ_ret ?_
        | refine loopQ_exit ?_
        | refine loopQ_ret ?_
        | refine J_label ?_
        | refine J_scope ?_
        | refine scopeQ_normal ?_
        | refine scopeQ_exit ?_
        | refine scopeQ_ret ?_
      repeat first
        | refine J_seq ?_
        | refine seqQ_normal ?_
        | refine J_condT rfl ?_
        | refine J_condF rfl ?_
        | refine J_block ?_
        | refine blockQ_normal ?_
        | refine J_exit ?_
        | refine seqQ_exit ?_
        | refine blockQ_hit ?_
        | refine blockQ_miss rfl ?_
        | refine J_skip ?_
        | refine J_ret ?_
        | refine seqQ_ret ?_
        | refine blockQ_ret ?_
        | refine loopQ_exit ?_
        | refine loopQ_ret ?_
        | refine J_label ?_
        | refine J_scope ?_
        | refine scopeQ_normal ?_
        | refine scopeQ_exit ?_
        | refine scopeQ_ret ?_
      refine J_region ?_
      refine L_q (Q_move rfl) rfl rfl rfl ?_
      refine JL_nil ?_
      repeat first
        | refine J_seq ?_
        | refine seqQ_normal ?_
        | refine J_condT rfl ?_
        | refine J_condF rfl ?_
        | refine J_block ?_
        | refine blockQ_normal ?_
        | refine J_exit ?_
        | refine seqQ_exit ?_
        | refine blockQ_hit ?_
        | refine blockQ_miss rfl ?_
        | refine J_skip ?_
        | refine J_ret ?_
        | refine seqQ_ret ?_
        | refine blockQ_ret ?_
        | refine loopQ_exit ?_
        | refine loopQ_ret ?_
        | refine J_label ?_
        | refine J_scope ?_
        | refine scopeQ_normal ?_
        | refine scopeQ_exit ?_
        | refine scopeQ_ret ?_
      repeat first
        | refine J_seq ?_
        | refine seqQ_normal ?_
        | refine J_condT rfl ?_
        | refine J_condF rfl ?_
        | refine J_block ?_
        | refine blockQ_normal ?_
        | refine J_exit ?_
        | refine seqQ_exit ?_
        | refine blockQ_hit ?_
        | refine blockQ_miss rfl ?_
        | refine J_skip ?_
        | refine J_ret ?_
        | refine seqQ_ret ?_
        | refine blockQ_ret ?_
        | refine loopQ_exit ?_
        | refine loopQ_ret ?_
        | refine J_label ?_
        | refine J_scope ?_
        | refine scopeQ_normal ?_
        | refine scopeQ_exit ?_
        | refine scopeQ_ret ?_
      refine J_region ?_
      refine L_q (Q_move rfl) rfl rfl rfl ?_
      refine L_q (Q_add rfl rfl (by first | exact IntWalk.i64_in _ (by omega) | exact IntWalk.u8_in _ (by omega) | exact IntWalk.u32_in _ (by omega) | exact IntWalk.u64_in _ (by omega) | rfl)) rfl rfl rfl ?_
      refine L_q (Q_assign rfl) rfl rfl rfl ?_
      refine JL_nil ?_
      repeat first
        | refine J_seq ?_
        | refine seqQ_normal ?_
        | refine J_condT rfl ?_
        | refine J_condF rfl ?_
        | refine J_block ?_
        | refine blockQ_normal ?_
        | refine J_exit ?_
        | refine seqQ_exit ?_
        | refine blockQ_hit ?_
        | refine blockQ_miss rfl ?_
        | refine J_skip ?_
        | refine J_ret ?_
        | refine seqQ_ret ?_
        | refine blockQ_ret ?_
        | refine loopQ_exit ?_
        | refine loopQ_ret ?_
        | refine J_label ?_
        | refine J_scope ?_
        | refine scopeQ_normal ?_
        | refine scopeQ_exit ?_
        | refine scopeQ_ret ?_
      repeat first
        | refine J_seq ?_
        | refine seqQ_normal ?_
        | refine J_condT rfl ?_
        | refine J_condF rfl ?_
        | refine J_block ?_
        | refine blockQ_normal ?_
        | refine J_exit ?_
        | refine seqQ_exit ?_
        | refine blockQ_hit ?_
        | refine blockQ_miss rfl ?_
        | refine J_skip ?_
        | refine J_ret ?_
        | refine seqQ_ret ?_
        | refine blockQ_ret ?_
        | refine loopQ_exit ?_
        | refine loopQ_ret ?_
        | refine J_label ?_
        | refine J_scope ?_
        | refine scopeQ_normal ?_
        | refine scopeQ_exit ?_
        | refine scopeQ_ret ?_
      refine J_region ?_
      refine L_q (Q_move rfl) rfl rfl rfl ?_
      refine L_q (Q_add rfl rfl (by first | exact IntWalk.i64_in _ (by omega) | exact IntWalk.u8_in _ (by omega) | exact IntWalk.u32_in _ (by omega) | exact IntWalk.u64_in _ (by omega) | rfl)) rfl rfl rfl ?_
      refine L_q (Q_assign rfl) rfl rfl rfl ?_
      refine JL_nil ?_
      repeat first
        | refine J_seq ?_
        | refine seqQ_normal ?_
        | refine J_condT rfl ?_
        | refine J_condF rfl ?_
        | refine J_block ?_
        | refine blockQ_normal ?_
        | refine J_exit ?_
        | refine seqQ_exit ?_
        | refine blockQ_hit ?_
        | refine blockQ_miss rfl ?_
        | refine J_skip ?_
        | refine J_ret ?_
        | refine seqQ_ret ?_
        | refine blockQ_ret ?_
        | refine loopQ_exit ?_
        | refine loopQ_ret ?_
        | refine J_label ?_
        | refine J_scope ?_
        | refine scopeQ_normal ?_
        | refine scopeQ_exit ?_
        | refine scopeQ_ret ?_
      refine loopQ_normal (k + 1, m3, L2) ⟨hlt, hB3, hL2, by simp only; omega, hW2⟩ (by simp only; omega) ⟨rfl, rfl, ?_, rfl, trivial⟩ (Ent.refl _)
      exact congrArg (fun n => some (Value.int .i64 n)) (by simp only; omega)
    | false =>
      have hf := takeL_f hb
      rw [hf] at hh2 hp2 hB2 hL2 hW2 hl2 ⊢
      repeat first
        | refine J_seq ?_
        | refine seqQ_normal ?_
        | refine J_condT rfl ?_
        | refine J_condF rfl ?_
        | refine J_block ?_
        | refine blockQ_normal ?_
        | refine J_exit ?_
        | refine seqQ_exit ?_
        | refine blockQ_hit ?_
        | refine blockQ_miss rfl ?_
        | refine J_skip ?_
        | refine J_ret ?_
        | refine seqQ_ret ?_
        | refine blockQ_ret ?_
        | refine loopQ_exit ?_
        | refine loopQ_ret ?_
        | refine J_label ?_
        | refine J_scope ?_
        | refine scopeQ_normal ?_
        | refine scopeQ_exit ?_
        | refine scopeQ_ret ?_
      refine J_region ?_
      refine L_q (Q_move rfl) rfl rfl rfl ?_
      refine L_q (Q_move rfl) rfl rfl rfl ?_
      refine L_n rfl rfl rfl ?_
      refine L_n rfl rfl rfl ?_
      refine L_n rfl rfl rfl ?_
      refine L_n rfl rfl rfl ?_
      refine L_n rfl rfl rfl ?_
      refine L_n rfl rfl rfl ?_
      refine L_n rfl rfl rfl ?_
      refine L_n rfl rfl rfl ?_
      refine L_n rfl rfl rfl ?_
      refine L_n rfl rfl rfl ?_
      first
        | refine L_q (Q_pickT rfl rfl) rfl rfl rfl ?_
        | refine L_q (Q_pickF rfl rfl) rfl rfl rfl ?_
        | refine L_q (Q_pickB rfl rfl rfl) rfl rfl rfl ?_
      refine L_q (Q_move rfl) rfl rfl rfl ?_
      refine L_q (Q_move rfl) rfl rfl rfl ?_
      refine L_q (Q_move rfl) rfl rfl rfl ?_
      refine L_q (Q_move rfl) rfl rfl rfl ?_
      refine L_q (Q_ixAt 2 k rfl rfl rfl rfl hlt rfl) rfl rfl rfl ?_
      refine L_q (Q_ldEAt 2 k 0 (v := .int .i64 l[k]) rfl rfl rfl rfl hlt (by decide) rfl) rfl rfl rfl ?_
      refine L_o rfl rfl rfl (O_call [0,1] [2,3] (hp2 m2 hB2) rfl rfl ?_)
      rintro _ _ ⟨m3, rfl, hB3, rfl⟩
      refine JL.norm ?_
      first
        | refine L_q (Q_pickT rfl rfl) rfl rfl rfl ?_
        | refine L_q (Q_pickF rfl rfl) rfl rfl rfl ?_
        | refine L_q (Q_pickB rfl rfl rfl) rfl rfl rfl ?_
      refine JL_nil ?_
      repeat first
        | refine J_seq ?_
        | refine seqQ_normal ?_
        | refine J_condT rfl ?_
        | refine J_condF rfl ?_
        | refine J_block ?_
        | refine blockQ_normal ?_
        | refine J_exit ?_
        | refine seqQ_exit ?_
        | refine blockQ_hit ?_
        | refine blockQ_miss rfl ?_
        | refine J_skip ?_
        | refine J_ret ?_
        | refine seqQ_ret ?_
        | refine blockQ_ret ?_
        | refine loopQ_exit ?_
        | refine loopQ_ret ?_
        | refine J_label ?_
        | refine J_scope ?_
        | refine scopeQ_normal ?_
        | refine scopeQ_exit ?_
        | refine scopeQ_ret ?_
      repeat first
        | refine J_seq ?_
        | refine seqQ_normal ?_
        | refine J_condT rfl ?_
        | refine J_condF rfl ?_
        | refine J_block ?_
        | refine blockQ_normal ?_
        | refine J_exit ?_
        | refine seqQ_exit ?_
        | refine blockQ_hit ?_
        | refine blockQ_miss rfl ?_
        | refine J_skip ?_
        | refine J_ret ?_
        | refine seqQ_ret ?_
        | refine blockQ_ret ?_
        | refine loopQ_exit ?_
        | refine loopQ_ret ?_
        | refine J_label ?_
        | refine J_scope ?_
        | refine scopeQ_normal ?_
        | refine scopeQ_exit ?_
        | refine scopeQ_ret ?_
      refine J_region ?_
      refine L_q (Q_move rfl) rfl rfl rfl ?_
      refine JL_nil ?_
      repeat first
        | refine J_seq ?_
        | refine seqQ_normal ?_
        | refine J_condT rfl ?_
        | refine J_condF rfl ?_
        | refine J_block ?_
        | refine blockQ_normal ?_
        | refine J_exit ?_
        | refine seqQ_exit ?_
        | refine blockQ_hit ?_
        | refine blockQ_miss rfl ?_
        | refine J_skip ?_
        | refine J_ret ?_
        | refine seqQ_ret ?_
        | refine blockQ_ret ?_
        | refine loopQ_exit ?_
        | refine loopQ_ret ?_
        | refine J_label ?_
        | refine J_scope ?_
        | refine scopeQ_normal ?_
        | refine scopeQ_exit ?_
        | refine scopeQ_ret ?_
      repeat first
        | refine J_seq ?_
        | refine seqQ_normal ?_
        | refine J_condT rfl ?_
        | refine J_condF rfl ?_
        | refine J_block ?_
        | refine blockQ_normal ?_
        | refine J_exit ?_
        | refine seqQ_exit ?_
        | refine blockQ_hit ?_
        | refine blockQ_miss rfl ?_
        | refine J_skip ?_
        | refine J_ret ?_
        | refine seqQ_ret ?_
        | refine blockQ_ret ?_
        | refine loopQ_exit ?_
        | refine loopQ_ret ?_
        | refine J_label ?_
        | refine J_scope ?_
        | refine scopeQ_normal ?_
        | refine scopeQ_exit ?_
        | refine scopeQ_ret ?_
      refine J_region ?_
      refine L_q (Q_move rfl) rfl rfl rfl ?_
      refine L_q (Q_add rfl rfl (by first | exact IntWalk.i64_in _ (by omega) | exact IntWalk.u8_in _ (by omega) | exact IntWalk.u32_in _ (by omega) | exact IntWalk.u64_in _ (by omega) | rfl)) rfl rfl rfl ?_
      refine L_q (Q_assign rfl) rfl rfl rfl ?_
      refine JL_nil ?_
      repeat first
        | refine J_seq ?_
        | refine seqQ_normal ?_
        | refine J_condT rfl ?_
        | refine J_condF rfl ?_
        | refine J_block ?_
        | refine blockQ_normal ?_
        | refine J_exit ?_
        | refine seqQ_exit ?_
        | refine blockQ_hit ?_
        | refine blockQ_miss rfl ?_
        | refine J_skip ?_
        | refine J_ret ?_
        | refine seqQ_ret ?_
        | refine blockQ_ret ?_
        | refine loopQ_exit ?_
        | refine loopQ_ret ?_
        | refine J_label ?_
        | refine J_scope ?_
        | refine scopeQ_normal ?_
        | refine scopeQ_exit ?_
        | refine scopeQ_ret ?_
      exact loopQ_normal (k + 1, m3, L) ⟨hlt, hB3, hL2, by simp only; omega, hW2⟩ (by simp only; omega) ⟨rfl, rfl, rfl, rfl, trivial⟩ (Ent.refl _)
  · obtain ⟨g1, g2⟩ := baseOf_ok L
    have g3 := baseOf_le L
    have hg := fun z => whas_ok E p size (baseOf L) r m L z hB hL
    have hg2 := hg (baseOf L : Int)
    rw [decide_eq_false g2] at hg2
    have hg3 := hg ((baseOf L : Int) + 64)
    rw [decide_eq_false (fun h => by have := hW _ h; omega)] at hg3
    repeat first
      | refine J_seq ?_
      | refine seqQ_normal ?_
      | refine J_condT rfl ?_
      | refine J_condF rfl ?_
      | refine J_block ?_
      | refine blockQ_normal ?_
      | refine J_exit ?_
      | refine seqQ_exit ?_
      | refine blockQ_hit ?_
      | refine blockQ_miss rfl ?_
      | refine J_skip ?_
      | refine J_ret ?_
      | refine seqQ_ret ?_
      | refine blockQ_ret ?_
      | refine loopQ_exit ?_
      | refine loopQ_ret ?_
      | refine J_label ?_
      | refine J_scope ?_
      | refine scopeQ_normal ?_
      | refine scopeQ_exit ?_
      | refine scopeQ_ret ?_
    refine J_region ?_
    refine L_q (Q_move rfl) rfl rfl rfl ?_
    refine L_o rfl rfl rfl (O_call [0] [1,2,3] (wbase_ok E p size (baseOf L) r) rfl rfl ?_)
    rintro _ _ ⟨rfl, rfl⟩
    refine JL.norm ?_
    refine L_q (Q_assign rfl) rfl rfl rfl ?_
    refine JL_nil ?_
    repeat first
      | refine J_seq ?_
      | refine seqQ_normal ?_
      | refine J_condT rfl ?_
      | refine J_condF rfl ?_
      | refine J_block ?_
      | refine blockQ_normal ?_
      | refine J_exit ?_
      | refine seqQ_exit ?_
      | refine blockQ_hit ?_
      | refine blockQ_miss rfl ?_
      | refine J_skip ?_
      | refine J_ret ?_
      | refine seqQ_ret ?_
      | refine blockQ_ret ?_
      | refine loopQ_exit ?_
      | refine loopQ_ret ?_
      | refine J_label ?_
      | refine J_scope ?_
      | refine scopeQ_normal ?_
      | refine scopeQ_exit ?_
      | refine scopeQ_ret ?_
    generalize baseOf L = b at *
    repeat first
      | refine J_seq ?_
      | refine seqQ_normal ?_
      | refine J_condT rfl ?_
      | refine J_condF rfl ?_
      | refine J_block ?_
      | refine blockQ_normal ?_
      | refine J_exit ?_
      | refine seqQ_exit ?_
      | refine blockQ_hit ?_
      | refine blockQ_miss rfl ?_
      | refine J_skip ?_
      | refine J_ret ?_
      | refine seqQ_ret ?_
      | refine blockQ_ret ?_
      | refine loopQ_exit ?_
      | refine loopQ_ret ?_
      | refine J_label ?_
      | refine J_scope ?_
      | refine scopeQ_normal ?_
      | refine scopeQ_exit ?_
      | refine scopeQ_ret ?_
    refine J_region ?_
    refine L_q (Q_assign rfl) rfl rfl rfl ?_
    refine JL_nil ?_
    repeat first
      | refine J_seq ?_
      | refine seqQ_normal ?_
      | refine J_condT rfl ?_
      | refine J_condF rfl ?_
      | refine J_block ?_
      | refine blockQ_normal ?_
      | refine J_exit ?_
      | refine seqQ_exit ?_
      | refine blockQ_hit ?_
      | refine blockQ_miss rfl ?_
      | refine J_skip ?_
      | refine J_ret ?_
      | refine seqQ_ret ?_
      | refine blockQ_ret ?_
      | refine loopQ_exit ?_
      | refine loopQ_ret ?_
      | refine J_label ?_
      | refine J_scope ?_
      | refine scopeQ_normal ?_
      | refine scopeQ_exit ?_
      | refine scopeQ_ret ?_
    refine J_loop (fun j : Nat => j ≤ b) (fun j => [(5, .pointer (some ⟨p, 0, none⟩)), (6, .int .i64 (L.length : Int)), (10, .int .i64 (b : Int)), (11, .int .i64 (j : Int))]) (fun _ => [winC p size b r, mpC mB r m, slc tZ false S l, F]) (fun j => b - j) 0 (Nat.zero_le _) ⟨rfl, rfl, rfl, rfl, trivial⟩ (Ent.refl _) ?_
    intro j hj
    repeat first
      | refine J_seq ?_
      | refine seqQ_normal ?_
      | refine J_condT rfl ?_
      | refine J_condF rfl ?_
      | refine J_block ?_
      | refine blockQ_normal ?_
      | refine J_exit ?_
      | refine seqQ_exit ?_
      | refine blockQ_hit ?_
      | refine blockQ_miss rfl ?_
      | refine J_skip ?_
      | refine J_ret ?_
      | refine seqQ_ret ?_
      | refine blockQ_ret ?_
      | refine loopQ_exit ?_
      | refine loopQ_ret ?_
      | refine J_label ?_
      | refine J_scope ?_
      | refine scopeQ_normal ?_
      | refine scopeQ_exit ?_
      | refine scopeQ_ret ?_
    refine J_region ?_
    refine L_q (Q_move rfl) rfl rfl rfl ?_
    refine L_q (Q_move rfl) rfl rfl rfl ?_
    refine L_q (Q_lss rfl rfl) rfl rfl rfl ?_
    refine JL_nil ?_
    repeat first
      | refine J_seq ?_
      | refine seqQ_normal ?_
      | refine J_condT rfl ?_
      | refine J_condF rfl ?_
      | refine J_block ?_
      | refine blockQ_normal ?_
      | refine J_exit ?_
      | refine seqQ_exit ?_
      | refine blockQ_hit ?_
      | refine blockQ_miss rfl ?_
      | refine J_skip ?_
      | refine J_ret ?_
      | refine seqQ_ret ?_
      | refine blockQ_ret ?_
      | refine loopQ_exit ?_
      | refine loopQ_ret ?_
      | refine J_label ?_
      | refine J_scope ?_
      | refine scopeQ_normal ?_
      | refine scopeQ_exit ?_
      | refine scopeQ_ret ?_
    refine J_condD rfl (fun h5 => ?_) (fun h5 => ?_)
    · have hlt : j < b := by omega
      have hgj := hg (j : Int)
      rw [decide_eq_true (g1 j hlt)] at hgj
      repeat first
        | refine J_seq ?_
        | refine seqQ_normal ?_
        | refine J_condT rfl ?_
        | refine J_condF rfl ?_
        | refine J_block ?_
        | refine blockQ_normal ?_
        | refine J_exit ?_
        | refine seqQ_exit ?_
        | refine blockQ_hit ?_
        | refine blockQ_miss rfl ?_
        | refine J_skip ?_
        | refine J_ret ?_
        | refine seqQ_ret ?_
        | refine blockQ_ret ?_
        | refine loopQ_exit ?_
        | refine loopQ_ret ?_
        | refine J_label ?_
        | refine J_scope ?_
        | refine scopeQ_normal ?_
        | refine scopeQ_exit ?_
        | refine scopeQ_ret ?_
      refine J_region ?_
      refine L_q (Q_move rfl) rfl rfl rfl ?_
      refine L_q (Q_move rfl) rfl rfl rfl ?_
      refine L_o rfl rfl rfl (O_call [0,1] [2,3] hgj rfl rfl ?_)
      rintro _ _ ⟨rfl, rfl⟩
      refine JL.norm ?_
      first
        | refine L_q (Q_notD rfl) rfl rfl rfl ?_
        | refine L_q (Q_not rfl) rfl rfl rfl ?_
      refine JL_nil ?_
      repeat first
        | refine J_seq ?_
        | refine seqQ_normal ?_
        | refine J_condT rfl ?_
        | refine J_condF rfl ?_
        | refine J_block ?_
        | refine blockQ_normal ?_
        | refine J_exit ?_
        | refine seqQ_exit ?_
        | refine blockQ_hit ?_
        | refine blockQ_miss rfl ?_
        | refine J_skip ?_
        | refine J_ret ?_
        | refine seqQ_ret ?_
        | refine blockQ_ret ?_
        | refine loopQ_exit ?_
        | refine loopQ_ret ?_
        | refine J_label ?_
        | refine J_scope ?_
        | refine scopeQ_normal ?_
        | refine scopeQ_exit ?_
        | refine scopeQ_ret ?_
      repeat first
        | refine J_seq ?_
        | refine seqQ_normal ?_
        | refine J_condT rfl ?_
        | refine J_condF rfl ?_
        | refine J_block ?_
        | refine blockQ_normal ?_
        | refine J_exit ?_
        | refine seqQ_exit ?_
        | refine blockQ_hit ?_
        | refine blockQ_miss rfl ?_
        | refine J_skip ?_
        | refine J_ret ?_
        | refine seqQ_ret ?_
        | refine blockQ_ret ?_
        | refine loopQ_exit ?_
        | refine loopQ_ret ?_
        | refine J_label ?_
        | refine J_scope ?_
        | refine scopeQ_normal ?_
        | refine scopeQ_exit ?_
        | refine scopeQ_ret ?_
      refine J_region ?_
      refine L_q (Q_move rfl) rfl rfl rfl ?_
      refine L_q (Q_add rfl rfl (by first | exact IntWalk.i64_in _ (by omega) | exact IntWalk.u8_in _ (by omega) | exact IntWalk.u32_in _ (by omega) | exact IntWalk.u64_in _ (by omega) | rfl)) rfl rfl rfl ?_
      refine L_q (Q_assign rfl) rfl rfl rfl ?_
      refine JL_nil ?_
      repeat first
        | refine J_seq ?_
        | refine seqQ_normal ?_
        | refine J_condT rfl ?_
        | refine J_condF rfl ?_
        | refine J_block ?_
        | refine blockQ_normal ?_
        | refine J_exit ?_
        | refine seqQ_exit ?_
        | refine blockQ_hit ?_
        | refine blockQ_miss rfl ?_
        | refine J_skip ?_
        | refine J_ret ?_
        | refine seqQ_ret ?_
        | refine blockQ_ret ?_
        | refine loopQ_exit ?_
        | refine loopQ_ret ?_
        | refine J_label ?_
        | refine J_scope ?_
        | refine scopeQ_normal ?_
        | refine scopeQ_exit ?_
        | refine scopeQ_ret ?_
      exact loopQ_normal (j + 1) hlt (by omega) ⟨rfl, rfl, rfl, rfl, trivial⟩ (Ent.refl _)
    · obtain rfl : j = b := by omega
      repeat first
        | refine J_seq ?_
        | refine seqQ_normal ?_
        | refine J_condT rfl ?_
        | refine J_condF rfl ?_
        | refine J_block ?_
        | refine blockQ_normal ?_
        | refine J_exit ?_
        | refine seqQ_exit ?_
        | refine blockQ_hit ?_
        | refine blockQ_miss rfl ?_
        | refine J_skip ?_
        | refine J_ret ?_
        | refine seqQ_ret ?_
        | refine blockQ_ret ?_
        | refine loopQ_exit ?_
        | refine loopQ_ret ?_
        | refine J_label ?_
        | refine J_scope ?_
        | refine scopeQ_normal ?_
        | refine scopeQ_exit ?_
        | refine scopeQ_ret ?_
      refine J_region ?_
      refine L_q (Q_move rfl) rfl rfl rfl ?_
      refine L_q (Q_move rfl) rfl rfl rfl ?_
      refine L_q ((Q_leq rfl rfl).as (v' := .bool true) (congrArg Value.bool (decide_eq_true (by omega)))) rfl rfl rfl ?_
      refine L_q (Q_move rfl) rfl rfl rfl ?_
      refine L_q (Q_move rfl) rfl rfl rfl ?_
      refine L_q (Q_move rfl) rfl rfl rfl ?_
      refine L_o rfl rfl rfl (O_call [0,1] [2,3] hg2 rfl rfl ?_)
      rintro _ _ ⟨rfl, rfl⟩
      refine JL.norm ?_
      first
        | refine L_q (Q_notD rfl) rfl rfl rfl ?_
        | refine L_q (Q_not rfl) rfl rfl rfl ?_
      first
        | refine L_q (Q_pickT rfl rfl) rfl rfl rfl ?_
        | refine L_q (Q_pickF rfl rfl) rfl rfl rfl ?_
        | refine L_q (Q_pickB rfl rfl rfl) rfl rfl rfl ?_
      refine L_q (Q_move rfl) rfl rfl rfl ?_
      refine L_q (Q_move rfl) rfl rfl rfl ?_
      refine L_q (Q_move rfl) rfl rfl rfl ?_
      refine L_q (Q_add rfl rfl (by first | exact IntWalk.i64_in _ (by omega) | exact IntWalk.u8_in _ (by omega) | exact IntWalk.u32_in _ (by omega) | exact IntWalk.u64_in _ (by omega) | rfl)) rfl rfl rfl ?_
      refine L_o rfl rfl rfl (O_call [0,1] [2,3] hg3 rfl rfl ?_)
      rintro _ _ ⟨rfl, rfl⟩
      refine JL.norm ?_
      first
        | refine L_q (Q_notD rfl) rfl rfl rfl ?_
        | refine L_q (Q_not rfl) rfl rfl rfl ?_
      first
        | refine L_q (Q_pickT rfl rfl) rfl rfl rfl ?_
        | refine L_q (Q_pickF rfl rfl) rfl rfl rfl ?_
        | refine L_q (Q_pickB rfl rfl rfl) rfl rfl rfl ?_
      refine L_q (Q_move rfl) rfl rfl rfl ?_
      refine L_o rfl rfl rfl (O_call [] [0,1,2,3] (awake_ok E) rfl rfl ?_)
      rintro _ _ ⟨rfl, rfl⟩
      refine JL.norm ?_
      first
        | refine L_q (Q_pickT rfl rfl) rfl rfl rfl ?_
        | refine L_q (Q_pickF rfl rfl) rfl rfl rfl ?_
        | refine L_q (Q_pickB rfl rfl rfl) rfl rfl rfl ?_
      refine L_q (Q_assign rfl) rfl rfl rfl ?_
      refine JL_nil ?_
      repeat first
        | refine J_seq ?_
        | refine seqQ_normal ?_
        | refine J_condT rfl ?_
        | refine J_condF rfl ?_
        | refine J_block ?_
        | refine blockQ_normal ?_
        | refine J_exit ?_
        | refine seqQ_exit ?_
        | refine blockQ_hit ?_
        | refine blockQ_miss rfl ?_
        | refine J_skip ?_
        | refine J_ret ?_
        | refine seqQ_ret ?_
        | refine blockQ_ret ?_
        | refine loopQ_exit ?_
        | refine loopQ_ret ?_
        | refine J_label ?_
        | refine J_scope ?_
        | refine scopeQ_normal ?_
        | refine scopeQ_exit ?_
        | refine scopeQ_ret ?_
      exact retQ_ret _ [] (.cons (RV_tmp rfl) .nil) ⟨rfl, rfl⟩ (Ent.re [3] rfl)
end Go.Proofs
