/- Part 46 of the texts below the row: Vlt5, Aw28P, Aw28, Law28P. -/
import Derived.Test.YtdggicfcpcjjlaaGreatDoorM1
import Derived.Test.YtdggicfcpcjjlaaGreatDoorM13
import Derived.Test.YtdggicfcpcjjlaaGreatDoorM16
import Derived.Test.YtdggicfcpcjjlaaGreatDoorM37
import Derived.Test.YtdggicfcpcjjlaaGreatDoorM45
/- A vault: a file's text. -/
set_option autoImplicit false
namespace Go.Proofs
open Go.SL
attribute [local irreducible] J JL QOp JOp seqQ blockQ loopQ retQ slc cel hex star pur stars Does RV Ent pAt scopeQ JR seqR endR JLI DoesY
attribute [local irreducible] gaA walA gateA
section
variable (E : World) (p m : Nat) (s : Vs)
theorem vopen_ok (f : Fl) (hfl : s.fl = [f]) (he : f.e = 0) (ht : s.g.t ≤ 100) (hkl : s.g.k.length ≤ 1000) (hf : Full s.g.k s.g.t) (l : List UInt8) (hop : Does Tryz.prog E 9 [(ws (keyF s.g.k)).v, str f.body] [] fun v L => v = .tuple #[str l, .int .i64 0] ∧ L = []) :
 Does Tryz.prog E 23 [.pointer (some ⟨p, 0, none⟩), str f.name] [vltA p m s] fun v L => v = .tuple #[str l, .int .i64 0] ∧ L = [vltA p m s] := by
 obtain ⟨sh, k, fl, n, a, b, g⟩ := s
 obtain ⟨e, nm, bd⟩ := f
 dsimp only at hfl he ht hkl hf hop ⊢
 subst hfl he
 refine Does.of Tryz.func23 rfl Tryz.ntmps23 rfl rfl fun F => ?_
 refine J.norm ?_
 refine J.open (fun _ hs => Sat.vltOut hs) fun x => ?_
 have hget := lget_ok E x.pl k x.S ⟨0, nm, bd⟩
 have hkey := gkey_ok E x.pga g ht hkl hf
 generalize ws (keyF g.k) = kw at *
 obtain ⟨ka, kb, kc, kd⟩ := kw
 dsimp only
 refine Sr ?_
 refine Xbm ?_
 refine Lq (Q_peql rfl rfl) ?_
 refine Xag ?_
 refine X9 ?_
 refine L_o rfl rfl rfl (O_call [3,4] [0,1,2,5,6,7,8,9] hget rfl rfl ?_)
 rintro _ _ ⟨rfl, rfl⟩
 refine XH ?_
 refine L_o rfl rfl rfl (O_alloc fun b6 => ?_)
 refine Xz ?_
 refine XA ?_
 refine XaQ ?_
 refine J_seq ?_
 refine J_seq ?_
 refine DH [0,3,8] [0,1,2,3,4,5,6,7] (.quiet 0 (.quiet 1 (.quiet 2 (.quiet 3 (.quiet 4 (.quiet 5 (.quiet 6 (.quiet 7 .done)))))))) Tryz.mixed ?_
 refine Sq (Ent.re [0,3,8] rfl) rfl (Q_fa0 rfl) ?_
 refine Sq (Ent.re [0,3,8] rfl) rfl (Q_ld 0 rfl rfl rfl rfl) ?_
 refine Sq (Ent.re [0,3,8] rfl) rfl (Q_move rfl) ?_
 refine Sq (Ent.re [0,3,8] rfl) rfl (Q_nilCheck rfl) ?_
 refine Sq (Ent.re [0,3,8] rfl) rfl (Q_fa0 rfl) ?_
 refine Sq (Ent.re [0,3,8] rfl) rfl (Q_ld 1 rfl rfl rfl rfl) ?_
 refine Sq (Ent.re [0,3,8] rfl) rfl ((Q_lenAt 2 rfl rfl).as (v' := .int .i64 1) rfl) ?_
 refine Sq (Ent.re [0,3,8] rfl) rfl ((Q_geq rfl rfl).as (v' := .bool false) rfl) ?_
 refine Xax ?_
 refine XS ?_
 refine J_seq ?_
 refine DH [0,3,8] [0,1,2,3,4,5,6,7,9,10,11,14] (.quiet 0 (.quiet 1 (.quiet 2 (.quiet 3 (.quiet 4 (.quiet 5 (.quiet 6 (.quiet 7 (.both 8 (.quiet 9 (.quiet 10 (.quiet 11 (.loud 12 (.loud 13 (.quiet 14 .done)))))) 12 (.loud 8 (.quiet 9 (.quiet 10 (.quiet 11 (.loud 13 (.quiet 14 .done))))))))))))))) Tryz.mixed ?_
 refine Sq (Ent.re [0,3,8] rfl) rfl (Q_move rfl) ?_
 refine Sq (Ent.re [0,3,8] rfl) rfl (Q_nilCheck rfl) ?_
 refine Sq (Ent.re [0,3,8] rfl) rfl (Q_fa0 rfl) ?_
 refine Sq (Ent.re [0,3,8] rfl) rfl (Q_ld 1 rfl rfl rfl rfl) ?_
 refine Sq (Ent.re [0,3,8] rfl) rfl (Q_fa0 rfl) ?_
 refine Sq (Ent.re [0,3,8] rfl) rfl (Q_ld 0 rfl rfl rfl rfl) ?_
 refine Sq (Ent.re [0,3,8] rfl) rfl (Q_ixAt 2 0 rfl rfl rfl rfl Nat.zero_lt_one rfl) ?_
 refine Sq (Ent.re [0,3,8] rfl) rfl (Q_ldEAt 2 0 0 (v := .pointer (some ⟨x.pga, 0, none⟩)) rfl rfl rfl rfl Nat.zero_lt_one (by decide) rfl) ?_
 refine S_both ?_ ?_
 ·refine S_o rfl rfl rfl rfl (O_call [9] [0,1,2,3,4,5,6,7,8,10] hkey rfl rfl ?_)
  (rintro _ _ ⟨rfl, rfl⟩; refine ⟨_, fun _ => ⟨Ent.reN [1,4,9] rfl, Ent.refl _⟩, ?_⟩)
  refine Xa ?_
  refine Sq (Ent.re [1,4,9] rfl) rfl (Q_move rfl) ?_
  refine Sq (Ent.re [1,4,9] rfl) rfl (Q_ext20 rfl) ?_
  refine Sq (Ent.re [1,4,9] rfl) rfl (Q_ext21 rfl) ?_
  refine S_o rfl rfl rfl rfl (O_alloc fun b8 => ⟨_, fun _ => ⟨Ent.reN [2,5,10] rfl, Ent.refl _⟩, ?_⟩)
  refine Xa ?_
  refine S_s rfl rfl rfl (O_stW 0 rfl rfl rfl rfl ⟨_, fun _ => ⟨Ent.reN [2,5,10] rfl, Ent.refl _⟩, ?_⟩)
  refine Xa ?_
  refine Sq (Ent.re [2,5,10] rfl) rfl (Q_assign rfl) ?_
  refine Xu ?_
  refine Xw ?_
  refine XaQ ?_
  refine Xo ?_
  refine Xee ?_
  refine L_o rfl rfl rfl (O_callP (hop) rfl ?_)
  refine Xcm ?_
  refine Xbz ?_
  exact retQ_ret _ [_] (.cons (RV_tmp rfl) (.cons (RV_tmp rfl) .nil)) ⟨rfl, rfl⟩ ((Ent.re [5,6,7,3,4,8,9,10,1,11] rfl).trans (Ent.vltIn p m ⟨sh, k, [⟨0, nm, bd⟩], n, a, b, g⟩ x))
 ·refine S_o rfl rfl rfl rfl (O_alloc fun b8 => ⟨_, fun _ => ⟨Ent.reN [1,4,9] rfl, Ent.refl _⟩, ?_⟩)
  refine Xa ?_
  refine S_o rfl rfl rfl rfl (O_call [10] [0,1,2,3,4,5,6,7,8,9,11] hkey rfl rfl ?_)
  (rintro _ _ ⟨rfl, rfl⟩; refine ⟨_, fun _ => ⟨Ent.reN [2,5,10] rfl, Ent.refl _⟩, ?_⟩)
  refine Xa ?_
  refine Sq (Ent.re [2,5,10] rfl) rfl (Q_move rfl) ?_
  refine Sq (Ent.re [2,5,10] rfl) rfl (Q_ext20 rfl) ?_
  refine Sq (Ent.re [2,5,10] rfl) rfl (Q_ext21 rfl) ?_
  refine S_s rfl rfl rfl (O_stW 1 rfl rfl rfl rfl ⟨_, fun _ => ⟨Ent.reN [2,5,10] rfl, Ent.refl _⟩, ?_⟩)
  refine Xa ?_
  refine Sq (Ent.re [2,5,10] rfl) rfl (Q_assign rfl) ?_
  refine Xu ?_
  refine Xw ?_
  refine XaQ ?_
  refine XM ?_
  refine Xee ?_
  refine L_o rfl rfl rfl (O_callP (hop) rfl ?_)
  refine Xcm ?_
  refine Xbz ?_
  exact retQ_ret _ [_] (.cons (RV_tmp rfl) (.cons (RV_tmp rfl) .nil)) ⟨rfl, rfl⟩ ((Ent.re [5,6,7,3,4,8,9,10,0,11] rfl).trans (Ent.vltIn p m ⟨sh, k, [⟨0, nm, bd⟩], n, a, b, g⟩ x))
end
end Go.Proofs
/- The committee that is tried at each law: its numbers. -/
set_option autoImplicit false
namespace Go.Proofs
open Go.SL
abbrev n5 : W4 := ⟨5, 0, 0, 0⟩
abbrev n3 : W4 := ⟨3, 0, 0, 0⟩
abbrev n7 : W4 := ⟨7, 0, 0, 0⟩
abbrev n2 : W4 := ⟨2, 0, 0, 0⟩
abbrev n9 : W4 := ⟨9, 0, 0, 0⟩
theorem small_ok {a : Nat} (h : a < 18446744073709551616) : (⟨a, 0, 0, 0⟩ : W4).ok := plW_ok h
theorem small_lt {a : Nat} (h : a < 1000) : (⟨a, 0, 0, 0⟩ : W4).n < Nt.pQ := by
 have e : (⟨a, 0, 0, 0⟩ : W4).n = a := plW_n a
 have q : 1000 < Nt.pQ := by decide
 omega
def awA : List W4 := [n5, n3]
def awB : List W4 := [n7, n2]
def awP : List (List W4) := [awA, awB]
def abc : List UInt8 := [97,98,99]
theorem awA_ok : ∀ k ∈ awA, k.ok ∧ k.n < Nt.pQ := by
 intro k hk
 simp only [awA, List.mem_cons, List.not_mem_nil, or_false] at hk
 rcases hk with rfl | rfl
 ·exact Xeq
 ·exact Xeq
theorem awB_ok : ∀ k ∈ awB, k.ok ∧ k.n < Nt.pQ := by
 intro k hk
 simp only [awB, List.mem_cons, List.not_mem_nil, or_false] at hk
 rcases hk with rfl | rfl
 ·exact Xeq
 ·exact Xeq
theorem some_of {A : Pt} (h : A ≠ Ec.E.zero) : ∃ P, A.p = some P := by
 obtain ⟨p, hp⟩ := A
 cases p with
 | none => exact absurd (Ec.E.ext rfl) h
 | some P => exact ⟨P, rfl⟩
theorem some_mul {k : Nat} (h0 : 0 < k) (hk : k < Nt.pQ) : ∃ P, (kP k gP).p = some P := some_of (mul_nz h0 hk)
theorem pl13 : Plcs [1,3] := ⟨by decide, by decide, by decide, by decide, by decide⟩
theorem joinA : joinF [(1, valW awA 1), (3, valW awA 3)] = sv n5 := joinF_shr awA [1,3] (by decide) rfl (by decide) (by decide) (by decide)
theorem joinB : joinF [(1, valW awB 1), (3, valW awB 3)] = sv n7 := joinF_shr awB [1,3] (by decide) rfl (by decide) (by decide) (by decide)
/-- What is kept in the end. -/
noncomputable def awK (S T : SV) : List (SV × ShL) := [(S, [(1, valW awA 1), (3, valW awA 3)]), (T, [(1, valW awB 1), (3, valW awB 3)])]
theorem awK_key (S T : SV) : (ws (keyF (awK S T))).n = 12 := by
 rw [ws_n]
 have e : keyF (awK S T) = 0 + sv n5 + sv n7 := by
  show 0 + joinF [(1, valW awA 1), (3, valW awA 3)] + joinF [(1, valW awB 1), (3, valW awB 3)] = _
  rw [joinA, joinB]
 rw [e]
 decide +kernel
theorem awK_full (S T : SV) : Full (awK S T) 1 := by
 refine ⟨?_, ?_, ?_⟩
 ·intro p hp
  simp only [awK, List.mem_cons, List.not_mem_nil, or_false] at hp
  rcases hp with rfl | rfl
  ·show 1 < 2; decide
  ·show 1 < 2; decide
 ·intro p hp
  simp only [awK, List.mem_cons, List.not_mem_nil, or_false] at hp
  rcases hp with rfl | rfl
  ·exact pl13
  ·exact pl13
 ·intro p hp q hq
  simp only [awK, List.mem_cons, List.not_mem_nil, or_false] at hp
  rcases hp with rfl | rfl
  ·simp only [List.mem_cons, List.not_mem_nil, or_false] at hq
   rcases hq with rfl | rfl
   ·exact valW_ok _ _
   ·exact valW_ok _ _
  ·simp only [List.mem_cons, List.not_mem_nil, or_false] at hq
   rcases hq with rfl | rfl
   ·exact valW_ok _ _
   ·exact valW_ok _ _
theorem awKeys : keyN awP (chZ 2) = 12 := by decide
section
variable (E : World)
/-- A dealer's points fit its share. -/
theorem ver_ok (c : List W4) (hc : ∀ k ∈ c, k.ok ∧ k.n < Nt.pQ) (h1 : 1 ≤ c.length) (h2 : c.length ≤ 1000) (a : Nat) (ha : 1 ≤ a) (ha2 : a ≤ 2147483648) (row : List Pw) (hrow : row = cmtL c) : ∀ S : SV, Does Tryz.prog E 49 [S.v, shV a (valW c a)] [slc tPw true S row] fun r L => r = .bool true ∧ L = [slc tPw true S row] := fun S => by
 subst hrow
 exact verify_ok E true S (cmtL c) (cmtL_ok c) (by rw [cmtL_len]; exact h2) (fun e => by have := congrArg List.length e; rw [cmtL_len] at this; simp at this; rw [this] at h1; cases h1) a ha ha2 (valW c a) (valW_ok c a) (ws_lt _) (shr_fits c (fun k hk => (hc k hk).2) a)
theorem dealsT_ok (f1 f2 : Bool) (S T : SV) (c : List W4) (n : Int) (hn : -9223372036854775808 ≤ n ∧ n ≤ 9223372036854775807) (t : Nat) (ht : t ≤ 2) (hc : ∀ k ∈ c, k.ok ∧ k.n < Nt.pQ) (hl : c.length ≤ 1000) (hB : dealB n t c.length = true) :
 Does Tryz.prog E 10 [.int .i64 n, .int .i64 (t : Int), S.v] [slc tNs f1 S [T], slc tNm f2 T c] fun r L => ∃ d : Dl, DlOf d n.toNat [c] ∧ r = .tuple #[dlV d.C d.V, .int .i64 0] ∧ L = [dlA d, slc tNs f1 S [T], slc tNm f2 T c] :=
 (deals_ok E f1 f2 S T c n hn t ht hc hl).mono fun r L h => by
  rcases h with ⟨h, _⟩ | ⟨_, h⟩
  ·rw [hB] at h; cases h
  ·exact h
end
end Go.Proofs
/- The committee that is tried at each law, walked. -/
set_option autoImplicit false
namespace Go.Proofs
open Go.SL
theorem Ent.two_in {α : Type} (f : α → HProp) (a b : α) {L : List HProp} : Ent (f a :: f b :: L) (stars ([a, b].map f) :: L) := Ent.gather (R := [a, b].map f)
theorem awDs (d1 d2 : Dl) (h1 : DlOf d1 4 [awA]) (h2 : DlOf d2 4 [awB]) : DsOf [d1, d2] 4 1 awP := ⟨rfl, fun i h => by
 match i, h with
 | 0, _ => exact h1
 | 1, _ => exact h2, by
 intro c hc
 simp only [awP, List.mem_cons, List.not_mem_nil, or_false] at hc
 rcases hc with rfl | rfl <;> rfl⟩
theorem awQs : ∀ c ∈ awP, ∀ k ∈ c, k.ok ∧ k.n < Nt.pQ := by
 intro c hc
 simp only [awP, List.mem_cons, List.not_mem_nil, or_false] at hc
 rcases hc with rfl | rfl
 ·exact awA_ok
 ·exact awB_ok
abbrev fnm : List UInt8 := [102]
attribute [local irreducible] J JL QOp JOp seqQ blockQ loopQ retQ slc cel hex star pur stars Does RV Ent pAt scopeQ JR seqR endR JLI DoesY
attribute [local irreducible] dlA vltA valW fileS encP
section
variable (E : World)
theorem awake_ok [hE : LaidE E] : Does Tryz.prog E 6 [] [] fun v L => v = .bool true ∧ L = [] := by
 obtain ⟨PK, hPK⟩ := some_mul (k := 12) (by decide) (by decide)
 obtain ⟨PB, hPB⟩ := some_mul (k := n9.n) (by decide) (by decide)
 have hon := (side_on PK).2 ((kP 12 gP).on PK hPK)
 have hd1 := fun U T => dealsT_ok E true true U T awA 4 (by decide) 1 (by decide) awA_ok (by decide) (by decide)
 have hd2 := fun U T => dealsT_ok E true true U T awB 4 (by decide) 1 (by decide) awB_ok (by decide) (by decide)
 have henc := encode_ok E (pw (kP 12 gP)) (pw_ok _)
 rw [own_pw, hPK] at henc
 have hseal := seal_ok E (pw (kP 12 gP)) (pw_ok _) n9 (small_ok (by decide)) (small_lt (by decide)) (by decide) (kP 12 gP) (own_pw _) PK hPK PB hPB abc (by decide) (by decide)
 have hop := fun S T => open_same E n9.n PB hPB abc (by decide) (by decide) (ws (keyF (awK S T))) (ws_ok _) (ws_lt _) (by rw [awK_key]; decide)
 simp only [awK_key] at hop
 have hfl : (fileS (kP 12 gP) n9.n (encP PB) abc).length = 60 := (fileS_form (kP 12 gP) n9.n PB abc hPB (by decide) (by decide)).len
 have hdoK := fun p m s h1 h2 h3 => vdoK_ok E p m s h1 PK hon h2 h3
 have hseal := hseal.mono fun _ _ h => And.intro h.2 h.1
 generalize fileS (kP 12 gP) n9.n (encP PB) abc = file at *
 have hkn : encP PK ≠ [] := encP_ne PK
 generalize hkb : encP PK = kb at *
 have henc' : Does Tryz.prog E 18 [(pw (kP 12 gP)).v] [] fun v L => v = .tuple #[str kb, .int .i64 0] ∧ L = [] := henc.mono fun v L h => by rw [h.1, ← hkb]; exact ⟨rfl, h.2⟩
 clear henc
 refine Does.of Tryz.func6 rfl Tryz.ntmps6 rfl rfl fun F => ?_
 refine Xb ?_
 refine Xi ?_
 refine XW ?_
 refine Xk ?_
 refine L_o rfl rfl rfl (O_litP (τ := tNm) (m := 2) (sz := 4) awA rfl rfl rfl rfl rfl rfl (by decide) (fun T1 => ?_))
 refine Xc ?_
 refine L_o rfl rfl rfl (O_litP (τ := tNs) (m := 1) (sz := 1) [T1] rfl rfl rfl rfl rfl rfl (by decide) (fun U1 => ?_))
 refine Xc ?_
 refine L_o rfl rfl rfl (O_call [0,1] [2] (hd1 U1 T1) rfl rfl ?_)
 rintro _ _ ⟨d1, hda, rfl, rfl⟩
 refine XH ?_
 refine L_o rfl rfl rfl (O_alloc fun b1 => ?_)
 refine Xz ?_
 refine Xn ?_
 refine J.ent (Ent.re [0,1,4] rfl) ?_
 refine Xh ?_
 refine Xk ?_
 refine Xk ?_
 refine L_o rfl rfl rfl (O_litP (τ := tNm) (m := 2) (sz := 4) awB rfl rfl rfl rfl rfl rfl (by decide) (fun T2 => ?_))
 refine Xc ?_
 refine L_o rfl rfl rfl (O_litP (τ := tNs) (m := 1) (sz := 1) [T2] rfl rfl rfl rfl rfl rfl (by decide) (fun U2 => ?_))
 refine Xc ?_
 refine L_o rfl rfl rfl (O_call [0,1] [2,3,4] (hd2 U2 T2) rfl rfl ?_)
 rintro _ _ ⟨d2, hdb, rfl, rfl⟩
 refine XH ?_
 refine L_o rfl rfl rfl (O_alloc fun b3 => ?_)
 refine Xz ?_
 refine Xbj ?_
 refine J.ent (Ent.re [0,1,4,5,6] rfl) ?_
 refine Xe ?_
 refine Xbq ?_
 refine Xf ?_
 refine Xbq ?_
 refine Xan ?_
 refine XZ ?_
 refine X1 ?_
 refine L_o rfl rfl rfl (O_litP (τ := tDl) (m := 2) (sz := 2) ([d1, d2].map hdD) rfl rfl rfl rfl rfl rfl (by decide) (fun D => ?_))
 refine Xc ?_
 refine L_o rfl rfl rfl (O_litP (τ := tN) (m := 2) (sz := 1) (chZ [d1, d2].length) rfl rfl rfl rfl rfl rfl (by decide) (fun C => ?_))
 refine Xc ?_
 refine XaK ?_
 refine J.ent ((Ent.re [5,3,1,0,6] rfl).trans ((Ent.two_in dlA d1 d2).trans (Ent.re [1,0,2,3] rfl))) ?_
 have hds := awDs d1 d2 hda hdb
 have hv := vnew_ok E 0 (by decide) D C [d1, d2] awP hds (by show 1 ≤ 2; decide) (by show 2 ≤ 3; decide) awQs
 have hw := vnew_ok E 2 (by decide) D C [d1, d2] awP hds (by show 1 ≤ 2; decide) (by show 2 ≤ 3; decide) awQs
 have hch : ∀ c ∈ chZ [d1, d2].length, 1 ≤ c ∧ c ≤ [d1, d2].length := fun c hc => by
  obtain ⟨j, hj, rfl⟩ := List.mem_map.1 hc
  have := List.mem_range.1 hj
  exact ⟨Nat.succ_le_succ (Nat.zero_le _), this⟩
 have hk := keys_ok E 4 1 (by decide) D C [d1, d2] awP hds (by show 2 ≤ 1000; decide) (chZ [d1, d2].length) hch (by show 2 ≤ 1000; decide) (by intro h; cases h)
 rw [show keyN awP (chZ [d1, d2].length) = 12 from awKeys] at hk
 refine Xl ?_
 refine L_o rfl rfl rfl (O_call [0,1,2] [3] hv rfl rfl ?_)
 rintro _ _ ⟨pv, gv, rfl, hgv, rfl⟩
 refine XH ?_
 refine Xab ?_
 refine L_o rfl rfl rfl (O_call [1,2,3] [0,4] hw rfl rfl ?_)
 rintro _ _ ⟨pw', gw, rfl, hgw, rfl⟩
 refine XH ?_
 refine Xab ?_
 refine L_o rfl rfl rfl (O_call [1,2,3] [0,4,5] hk rfl rfl ?_)
 rintro _ _ ⟨T, rfl, rfl⟩
 refine XaJ ?_
 refine J_seq ?_
 refine J.ent (Ent.re [0,4,5,6] rfl) ?_
 refine Xe ?_
 refine Xbq ?_
 refine Xf ?_
 refine Xbq ?_
 refine Xp ?_
 refine Xf ?_
 refine XO ?_
 refine Xbq ?_
 refine Xan ?_
 refine Xg ?_
 refine XfB ?_
 refine L_o rfl rfl rfl (O_callP (henc') rfl ?_)
 refine XK ?_
 refine Xam ?_
 refine XfB ?_
 refine Xk ?_
 refine L_o rfl rfl rfl (O_callP (hseal) rfl ?_)
 refine XK ?_
 refine XaK ?_
 obtain ⟨gt, gC, gc, gK, gk⟩ := gv
 obtain ⟨h1, h2, h3⟩ := hgv
 dsimp only at h1 h2
 subst h1
 obtain rfl : gk = [(SV.nil, []), (SV.nil, [])] := h3
 have hc2 : gc.length = 2 := by have := congrArg List.length h2; rw [List.length_map] at this; exact this
 match gc, hc2 with
 | [r0, r1], _ =>
 have e0 : r0.2 = cmtL awA := (List.cons.inj h2).1
 have e1 : r1.2 = cmtL awB := (List.cons.inj (List.cons.inj h2).2).1
 have hk1 := hdoK pv 0 ⟨vSh awP 0 2, [], [], 0, 0, -1, ⟨1, gC, [r0, r1], gK, [(SV.nil, []), (SV.nil, [])]⟩⟩ rfl (by show 0 ≤ 100; decide) (by show 0 ≤ 1000; decide)
 have hk2 := vdoP_ok E pv 0 ⟨vSh awP 0 2, kb, [], 0 + 59, 0, -1, ⟨1, gC, [r0, r1], gK, [(SV.nil, []), (SV.nil, [])]⟩⟩ hkn rfl ⟨0, fnm, file⟩ rfl (by show 1 ≤ 1; decide) (by show 1 ≤ 16; decide) (by show file.length ≤ 2000; omega) (by show 59 ≤ 1000; decide)
 have hk3 := fun n' => vtick_ok E pv 0 ⟨vSh awP 0 2, kb, [⟨0, fnm, file⟩], n', 0, -1, ⟨1, gC, [r0, r1], gK, [(SV.nil, []), (SV.nil, [])]⟩⟩ (by show (-1 : Int) ≤ 12; decide)
 have hk4 := vtick_ok E pw' 2 ⟨vSh awP 2 2, [], [], 0, 0, -1, gw⟩ (by show (-1 : Int) ≤ 12; decide)
 have hk5 := fun n' => vemit_ok E pv 0 ⟨vSh awP 0 2, kb, [⟨0, fnm, file⟩], n', 12, 12, ⟨1, gC, [r0, r1], gK, [(SV.nil, []), (SV.nil, [])]⟩⟩ rfl rfl (by show 2 ≤ 1000; decide)
 have hk6 := vemit_ok E pw' 2 ⟨vSh awP 2 2, [], [], 0, 12, 12, gw⟩ rfl rfl (by show 2 ≤ 1000; decide)
 refine Xl ?_
 refine Xk ?_
 refine L_o rfl rfl rfl (O_call [2] [0,1,3] hk1 rfl rfl ?_)
 rintro _ _ ⟨rfl, rfl⟩
 refine Xr ?_
 refine Xv ?_
 refine Xk ?_
 refine L_o rfl rfl rfl (O_call [0] [1,2,3] hk2 rfl rfl ?_)
 rintro _ _ ⟨n', rfl, rfl⟩
 refine Xbn ?_
 refine L_o rfl rfl rfl (O_call [0] [1,2,3] (hk3 n') rfl rfl ?_)
 rintro _ _ ⟨rfl, rfl⟩
 refine Xbn ?_
 refine L_o rfl rfl rfl (O_call [2] [0,1,3] hk4 rfl rfl ?_)
 rintro _ _ ⟨rfl, rfl⟩
 refine Xbn ?_
 refine L_o rfl rfl rfl (O_call [1] [0,2,3] (hk5 n') rfl rfl ?_)
 rintro _ _ ⟨A, rfl, rfl⟩
 refine XH ?_
 refine Xam ?_
 refine L_o rfl rfl rfl (O_call [2] [0,1,3,4] hk6 rfl rfl ?_)
 rintro _ _ ⟨B, rfl, rfl⟩
 refine XH ?_
 refine XaK ?_
 refine J_seq ?_
 refine J.ent (Ent.re [2,3,1,5] rfl) ?_
 refine Xe ?_
 refine Xbq ?_
 refine Xf ?_
 refine Xbq ?_
 refine Xp ?_
 refine Xf ?_
 refine Lq ((Q_lenAt 1 rfl rfl).as (v' := .int .i64 2) rfl) ?_
 refine Xbq ?_
 refine Xp ?_
 refine Xf ?_
 refine Lq ((Q_lenAt 2 rfl rfl).as (v' := .int .i64 2) rfl) ?_
 refine Xbq ?_
 refine XbU ?_
 have t1 := fun (_ : Unit) => vtake_ok E pv 0 ⟨vSh awP 0 2, kb, [⟨0, fnm, file⟩], n', 12, 12, ⟨1, gC, [r0, r1], gK, [(SV.nil, []), (SV.nil, [])]⟩⟩ rfl rfl 0 (by show 0 < 2; decide) (by show 0 < 2; decide) (by show 2 ≤ 1000; decide) (fun _ => rfl) 1 (valW awA 1) (by show 0 ≤ 1; decide) (by show 1 ≤ 100; decide) (fun q hq => by cases hq) (ver_ok E awA awA_ok (by decide) (by decide) 1 (by decide) (by decide) (r0).2 e0)
 have t2 := fun S1 => vtake_ok E pv 0 ⟨vSh awP 0 2, kb, [⟨0, fnm, file⟩], n', 12, 12, ⟨1, gC, [r0, r1], gK, [(S1, [(1, valW awA 1)]), (SV.nil, [])]⟩⟩ rfl rfl 1 (by show 1 < 2; decide) (by show 1 < 2; decide) (by show 2 ≤ 1000; decide) (fun _ => rfl) 1 (valW awB 1) (by show 0 ≤ 1; decide) (by show 1 ≤ 100; decide) (fun q hq => by cases hq) (ver_ok E awB awB_ok (by decide) (by decide) 1 (by decide) (by decide) (r1).2 e1)
 have t3 := fun S1 S2 => vtake_ok E pv 0 ⟨vSh awP 0 2, kb, [⟨0, fnm, file⟩], n', 12, 12, ⟨1, gC, [r0, r1], gK, [(S1, [(1, valW awA 1)]), (S2, [(1, valW awB 1)])]⟩⟩ rfl rfl 0 (by show 0 < 2; decide) (by show 0 < 2; decide) (by show 2 ≤ 1000; decide) (fun h => by cases h) 3 (valW awA 3) (by show 1 ≤ 1; decide) (by show 1 ≤ 100; decide) (fun q hq => by rw [List.mem_singleton.1 hq]; decide) (ver_ok E awA awA_ok (by decide) (by decide) 3 (by decide) (by decide) (r0).2 e0)
 have t4 := fun S3 S2 => vtake_ok E pv 0 ⟨vSh awP 0 2, kb, [⟨0, fnm, file⟩], n', 12, 12, ⟨1, gC, [r0, r1], gK, [(S3, [(1, valW awA 1), (3, valW awA 3)]), (S2, [(1, valW awB 1)])]⟩⟩ rfl rfl 1 (by show 1 < 2; decide) (by show 1 < 2; decide) (by show 2 ≤ 1000; decide) (fun h => by cases h) 3 (valW awB 3) (by show 1 ≤ 1; decide) (by show 1 ≤ 100; decide) (fun q hq => by rw [List.mem_singleton.1 hq]; decide) (ver_ok E awB awB_ok (by decide) (by decide) 3 (by decide) (by decide) (r1).2 e1)
 have hO := fun S3 S4 => vopen_ok E pv 0 ⟨vSh awP 0 2, kb, [⟨0, fnm, file⟩], n', 12, 12, ⟨1, gC, [r0, r1], gK, awK S3 S4⟩⟩ ⟨0, fnm, file⟩ rfl rfl (by show 1 ≤ 100; decide) (by show 2 ≤ 1000; decide) (awK_full S3 S4) abc (hop S3 S4)
 have u1 : Does Tryz.prog E 22 [.pointer (some ⟨pv, 0, none⟩), .int .i64 0, .int .i64 0, shV 1 (valW awA 1)] [vltA pv 0 ⟨vSh awP 0 2, kb, [⟨0, fnm, file⟩], n', 12, 12, ⟨1, gC, [r0, r1], gK, [(SV.nil, []), (SV.nil, [])]⟩⟩] fun r L => ∃ S : SV, r = .bool true ∧ L = [vltA pv 0 ⟨vSh awP 0 2, kb, [⟨0, fnm, file⟩], n', 12, 12, ⟨1, gC, [r0, r1], gK, [(S, [(1, valW awA 1)]), (SV.nil, [])]⟩⟩] := t1 ()
 have u2 : ∀ S1 : SV, Does Tryz.prog E 22 [.pointer (some ⟨pv, 0, none⟩), .int .i64 0, .int .i64 1, shV 1 (valW awB 1)] [vltA pv 0 ⟨vSh awP 0 2, kb, [⟨0, fnm, file⟩], n', 12, 12, ⟨1, gC, [r0, r1], gK, [(S1, [(1, valW awA 1)]), (SV.nil, [])]⟩⟩] fun r L => ∃ S : SV, r = .bool true ∧ L = [vltA pv 0 ⟨vSh awP 0 2, kb, [⟨0, fnm, file⟩], n', 12, 12, ⟨1, gC, [r0, r1], gK, [(S1, [(1, valW awA 1)]), (S, [(1, valW awB 1)])]⟩⟩] := t2
 have u3 : ∀ S1 S2 : SV, Does Tryz.prog E 22 [.pointer (some ⟨pv, 0, none⟩), .int .i64 0, .int .i64 0, shV 3 (valW awA 3)] [vltA pv 0 ⟨vSh awP 0 2, kb, [⟨0, fnm, file⟩], n', 12, 12, ⟨1, gC, [r0, r1], gK, [(S1, [(1, valW awA 1)]), (S2, [(1, valW awB 1)])]⟩⟩] fun r L => ∃ S : SV, r = .bool true ∧ L = [vltA pv 0 ⟨vSh awP 0 2, kb, [⟨0, fnm, file⟩], n', 12, 12, ⟨1, gC, [r0, r1], gK, [(S, [(1, valW awA 1), (3, valW awA 3)]), (S2, [(1, valW awB 1)])]⟩⟩] := t3
 have u4 : ∀ S3 S2 : SV, Does Tryz.prog E 22 [.pointer (some ⟨pv, 0, none⟩), .int .i64 0, .int .i64 1, shV 3 (valW awB 3)] [vltA pv 0 ⟨vSh awP 0 2, kb, [⟨0, fnm, file⟩], n', 12, 12, ⟨1, gC, [r0, r1], gK, [(S3, [(1, valW awA 1), (3, valW awA 3)]), (S2, [(1, valW awB 1)])]⟩⟩] fun r L => ∃ S : SV, r = .bool true ∧ L = [vltA pv 0 ⟨vSh awP 0 2, kb, [⟨0, fnm, file⟩], n', 12, 12, ⟨1, gC, [r0, r1], gK, awK S3 S⟩⟩] := t4
 clear t1 t2 t3 t4
 refine Xl ?_
 refine Lq (Q_ixAt 1 0 rfl rfl rfl rfl (by show 0 < 2; decide) rfl) ?_
 refine Lq (Q_ldEAAt 1 0 0 (vs := shL 1 (valW awA 1)) rfl rfl rfl rfl (by show 0 < 2; decide) (Nat.le_refl 5) rfl) ?_
 refine L_o rfl rfl rfl (O_call [0] [1,2,3] u1 rfl rfl ?_)
 rintro _ _ ⟨S1, rfl, rfl⟩
 refine Xc ?_
 refine X7 ?_
 refine Lq (Q_ixAt 1 1 rfl rfl rfl rfl (by show 1 < 2; decide) rfl) ?_
 refine Lq (Q_ldEAAt 1 1 0 (vs := shL 1 (valW awB 1)) rfl rfl rfl rfl (by show 1 < 2; decide) (Nat.le_refl 5) rfl) ?_
 refine L_o rfl rfl rfl (O_call [0] [1,2,3] (u2 S1) rfl rfl ?_)
 rintro _ _ ⟨S2, rfl, rfl⟩
 refine Xc ?_
 refine XaD ?_
 refine X7 ?_
 refine Lq (Q_ixAt 2 0 rfl rfl rfl rfl (by show 0 < 2; decide) rfl) ?_
 refine Lq (Q_ldEAAt 2 0 0 (vs := shL 3 (valW awA 3)) rfl rfl rfl rfl (by show 0 < 2; decide) (Nat.le_refl 5) rfl) ?_
 refine L_o rfl rfl rfl (O_call [0] [1,2,3] (u3 S1 S2) rfl rfl ?_)
 rintro _ _ ⟨S3, rfl, rfl⟩
 refine Xc ?_
 refine XaD ?_
 refine X7 ?_
 refine Lq (Q_ixAt 2 1 rfl rfl rfl rfl (by show 1 < 2; decide) rfl) ?_
 refine Lq (Q_ldEAAt 2 1 0 (vs := shL 3 (valW awB 3)) rfl rfl rfl rfl (by show 1 < 2; decide) (Nat.le_refl 5) rfl) ?_
 refine L_o rfl rfl rfl (O_call [0] [1,2,3] (u4 S3 S2) rfl rfl ?_)
 rintro _ _ ⟨S4, rfl, rfl⟩
 refine Xc ?_
 refine XaD ?_
 refine Xx ?_
 refine L_o rfl rfl rfl (O_call [0] [1,2,3] (hO S3 S4) rfl rfl ?_)
 rintro _ _ ⟨rfl, rfl⟩
 refine XH ?_
 refine Xam ?_
 refine Xf ?_
 refine Lq ((Q_seql rfl rfl).as (v' := .bool true) rfl) ?_
 refine XaD ?_
 refine Xf ?_
 refine Xai ?_
 refine XaD ?_
 exact Xes
end
end Go.Proofs
/- The laws of chapter 28: numbers that may be; polynomials. -/
set_option autoImplicit false
namespace Go.Proofs
open Go.SL
def wrd (x : W4) : Nat → Nat
 | 0 => x.a
 | 1 => x.b
 | 2 => x.c
 | _ => x.d
theorem wrd_get (x : W4) (j : Nat) (h : j < 4) : (x.l)[j]? = some (u64 (wrd x j)) := by
 match j, h with
 | 0, _ => rfl
 | 1, _ => rfl
 | 2, _ => rfl
 | 3, _ => rfl
theorem top_lt {x y : W4} (hx : x.ok) (hy : y.ok) (j : Nat) (hj : j < 4) (he : ∀ i, j < i → i < 4 → wrd x i = wrd y i) (h : wrd x j < wrd y j) : x.n < y.n := by
 obtain ⟨a, b, c, d⟩ := x
 obtain ⟨a', b', c', d'⟩ := y
 obtain ⟨h1, h2, h3, h4⟩ := hx
 obtain ⟨k1, k2, k3, k4⟩ := hy
 dsimp only at h1 h2 h3 h4 k1 k2 k3 k4
 unfold W4.n
 dsimp only
 match j, hj with
 | 0, _ =>
  have e1 := he 1 (by decide) (by decide)
  have e2 := he 2 (by decide) (by decide)
  have e3 := he 3 (by decide) (by decide)
  simp only [wrd] at e1 e2 e3 h
  omega
 | 1, _ =>
  have e2 := he 2 (by decide) (by decide)
  have e3 := he 3 (by decide) (by decide)
  simp only [wrd] at e2 e3 h
  omega
 | 2, _ =>
  have e3 := he 3 (by decide) (by decide)
  simp only [wrd] at e3 h
  omega
 | 3, _ =>
  simp only [wrd] at h
  omega
theorem all_eq {x y : W4} (he : ∀ i, i < 4 → wrd x i = wrd y i) : x.n = y.n := by
 have e0 := he 0 (by decide)
 have e1 := he 1 (by decide)
 have e2 := he 2 (by decide)
 have e3 := he 3 (by decide)
 simp only [wrd] at e0 e1 e2 e3
 unfold W4.n
 rw [e0, e1, e2, e3]
abbrev ordW : W4 := ⟨17562291160714782033, 13611842547513532036, 18446744073709551615, 18446744069414584320⟩
theorem ordW_ok : ordW.ok := by constructor <;> decide
theorem ordW_n : ordW.n = Nt.pQ := by decide +kernel
/-- Is it a polynomial whose secret may be? -/
def polyB (c : List W4) : Bool := decide (1 ≤ c.length ∧ c.length ≤ 3) && decide ((c.getD 0 z4).n ≠ 0) && c.all fun k => decide (k.n < Nt.pQ)
theorem polyB_t {c : List W4} (h : polyB c = true) : 1 ≤ c.length ∧ c.length ≤ 3 ∧ (c.getD 0 z4).n ≠ 0 ∧ ∀ k ∈ c, k.n < Nt.pQ := by
 unfold polyB at h
 simp only [Bool.and_eq_true, decide_eq_true_eq, List.all_eq_true] at h
 exact ⟨h.1.1.1, h.1.1.2, h.1.2, h.2⟩
theorem polyB_f {c : List W4} (h : ¬ (1 ≤ c.length ∧ c.length ≤ 3 ∧ (c.getD 0 z4).n ≠ 0 ∧ ∀ k ∈ c, k.n < Nt.pQ)) : polyB c = false := by
 cases e : polyB c with
 | false => rfl
 | true => exact absurd (polyB_t e) h
theorem polyB_of {c : List W4} (h1 : 1 ≤ c.length) (h2 : c.length ≤ 3) (h3 : (c.getD 0 z4).n ≠ 0) (h4 : ∀ k ∈ c, k.n < Nt.pQ) : polyB c = true := by
 unfold polyB
 simp only [Bool.and_eq_true, decide_eq_true_eq, List.all_eq_true]
 exact ⟨⟨⟨h1, h2⟩, h3⟩, h4⟩
attribute [local irreducible] J JL QOp JOp seqQ blockQ loopQ retQ slc cel hex star pur stars Does RV Ent pAt scopeQ JR seqR endR JLI DoesY
section
variable (E : World)
theorem rcmp_ok (x y : W4) (hx : x.ok) (hy : y.ok) : Does Tryz.prog E 53 [x.v, y.v] [] fun r L => r = .int .i64 (cmpN x.n y.n) ∧ L = [] := by
 refine Does.of Tryz.func53 rfl Tryz.ntmps53 rfl rfl fun F => ?_
 refine Xb ?_
 refine L_o rfl rfl rfl (O_box rfl fun b2 => ?_)
 refine L_o rfl rfl rfl (O_box rfl fun b3 => ?_)
 refine Xn ?_
 refine Xa4 ?_
 refine J_loop (fun g : Nat => g ≤ 4 ∧ ∀ i, g ≤ i → i < 4 → wrd x i = wrd y i) (fun g => [(2, .pointer (some ⟨b2, 0, none⟩)), (3, .pointer (some ⟨b3, 0, none⟩)), (5, .int .i64 ((g : Int) - 1))]) (fun _ => [cel b3 y.l 24, cel b2 x.l 24, F]) (fun g => g) 4 ⟨Nat.le_refl _, fun i h1 h2 => by omega⟩ ⟨rfl, rfl, rfl, trivial⟩ (Ent.refl _) ?_
 rintro g ⟨hg, he⟩
 cases g with
 | zero =>
  refine Xw ?_
  refine Xcz ?_
  refine X2 ?_
  refine XaA ?_
  refine Xaf ?_
  exact retQ_ret _ [] (.cons (RV_tmp rfl) .nil) ⟨by unfold cmpN; rw [if_pos (all_eq fun i hi => he i (Nat.zero_le _) hi)]; rfl, rfl⟩ (Ent.re [2] rfl)
 | succ j =>
  have hj : j < 4 := by omega
  have hex : ∀ i, j < i → i < 4 → wrd x i = wrd y i := fun i h1 h2 => he i (by omega) h2
  have hgx := wrd_get x j hj
  have hgy := wrd_get y j hj
  rw [show ((j + 1 : Nat) : Int) - 1 = (j : Int) by omega]
  refine XdX ?_
  refine Ln ?_
  refine Xac ?_
  refine J_seq ?_
  refine J_seq ?_
  rcases Nat.lt_trichotomy (wrd x j) (wrd y j) with h | h | h
  ·have hlt := top_lt hx hy j hj hex h
   refine Xdp ?_
   refine Xd3 ?_
   refine Sq (Ent.re [1,0] rfl) rfl ((Q_lss rfl rfl).as (v' := .bool true) (congrArg Value.bool (decide_eq_true ((by omega))))) ?_
   refine Xu ?_
   refine J_condT rfl ?_
   refine XbK ?_
   refine Xbc ?_
   refine XY ?_
   exact retQ_ret _ [] (.cons (RV_tmp rfl) .nil) ⟨by unfold cmpN; rw [if_neg (by omega), if_pos hlt]; rfl, rfl⟩ (Ent.re [2] rfl)
  ·skip
   refine Xdp ?_
   refine XfP ?_
   refine Xax ?_
   refine XS ?_
   refine J_seq ?_
   refine Xdp ?_
   refine Xd3 ?_
   refine Sq (Ent.re [1,0] rfl) rfl ((Q_gtr rfl rfl).as (v' := .bool false) (congrArg Value.bool (decide_eq_false ((by omega))))) ?_
   refine Xax ?_
   refine Xbe ?_
   refine Xe ?_
   refine XcA ?_
   refine Xj ?_
   exact loopQ_normal j ⟨by omega, fun i h1 h2 => by
    by_cases e : i = j
    ·subst e; exact h
    ·exact hex i (by omega) h2⟩ (Nat.lt_succ_self j) ⟨rfl, rfl, rfl, trivial⟩ (Ent.refl _)
  ·have hlt := top_lt hy hx j hj (fun i h1 h2 => (hex i h1 h2).symm) h
   refine Xdp ?_
   refine XfP ?_
   refine Xax ?_
   refine XS ?_
   refine J_seq ?_
   refine Xdp ?_
   refine Xd3 ?_
   refine Sq (Ent.re [1,0] rfl) rfl ((Q_gtr rfl rfl).as (v' := .bool true) (congrArg Value.bool (decide_eq_true ((by omega))))) ?_
   refine Xu ?_
   refine J_condT rfl ?_
   refine Xaf ?_
   refine Xbc ?_
   refine XY ?_
   exact retQ_ret _ [] (.cons (RV_tmp rfl) .nil) ⟨by unfold cmpN; rw [if_neg (by omega), if_neg (by omega)]; rfl, rfl⟩ (Ent.re [2] rfl)
theorem rorder_ok : Does Tryz.prog E 54 [] [] fun r L => r = ordW.v ∧ L = [] := by
 refine Does.of Tryz.func54 rfl Tryz.ntmps54 rfl rfl fun F => ?_
 refine Xb ?_
 refine L_o rfl rfl rfl (O_alloc fun b0 => ?_)
 refine Ln ?_
 refine XW ?_
 exact XcN
theorem rvalid_ok (k : W4) (hk : k.ok) : Does Tryz.prog E 16 [k.v] [] fun r L => r = .bool (decide (k.n < Nt.pQ)) ∧ L = [] := by
 have ho := rorder_ok E
 have hc := rcmp_ok E k ordW hk ordW_ok
 rw [ordW_n] at hc
 have hd : decide (cmpN k.n Nt.pQ < 0) = decide (k.n < Nt.pQ) := by
  unfold cmpN
  refine decide_eq_decide.2 ?_
  split
  ·constructor
   ·intro h; cases h
   ·intro h; omega
  ·split
   ·rename_i h; exact ⟨fun _ => h, fun _ => by decide⟩
   ·rename_i h; exact ⟨(fun h => by cases h), fun h2 => absurd h2 h⟩
 refine Does.of Tryz.func16 rfl Tryz.ntmps16 rfl rfl fun F => ?_
 refine Xb ?_
 refine L_o rfl rfl rfl (O_box rfl fun b1 => ?_)
 refine Xn ?_
 refine DH [0] [0,3,4] (.quiet 0 (.loud 1 (.loud 2 (.quiet 3 (.quiet 4 .done))))) Tryz.mixed ?_
 refine XaV ?_
 refine S_o rfl rfl rfl rfl (O_callP (ho) rfl ⟨_, fun _ => ⟨Ent.reN [0] rfl, Ent.refl _⟩, ?_⟩)
 refine Xa ?_
 refine S_o rfl rfl rfl rfl (O_callP (hc) rfl ⟨_, fun _ => ⟨Ent.reN [0] rfl, Ent.refl _⟩, ?_⟩)
 refine Xa ?_
 refine Sq (Ent.re [0] rfl) rfl ((Q_lss rfl rfl).as (v' := .bool (decide (k.n < Nt.pQ))) (congrArg Value.bool hd)) ?_
 exact XcM
end
end Go.Proofs
