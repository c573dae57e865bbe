/- Is a tree one? -/
import Derived.Test.YtihlnjafeocbnaaTree13
set_option autoImplicit false
namespace Go.SL
theorem J.cutB {P : Program} {E : World} {n id : Nat} {c : Code} {Q : Post} {ρ : Env} {L : List HProp} (M : Post) (h : J P E n c (blockQ id M) ρ L) (hq : ∀ e ρ L, M e ρ L → Q e ρ L) : J P E n c (blockQ id Q) ρ L := h.mono (blockQ_mono hq)
theorem Q_pneA {P : Program} {E : World} {n : Nat} {ρ : Env} {L : List HProp} {dst : Option Tmp} {ty : TypeId} {pos : String} {after : Array Edge} {g : Option (Nat × Bool)} {t t' el c : Nat} {x y : Operand} {S : SV} [u : TyU P t (.pointer el)] (hx : ρ.ev x = some (pAt S c)) (hy : ρ.ev y = some (.pointer none)) : QOp P E n ⟨dst, .binOp .neq t x y t', ty, pos, after, g⟩ ρ L (.bool true) := Q_pneq (a := some _) hx hy
end Go.SL
namespace Go.Proofs
open Go.SL
theorem Does.post {P : Program} {E : World} {f : Nat} {args : List Value} {pre pre' : List HProp} {K K2 : Value → List HProp → Prop} (h : Does P E f args pre K) (hp : ∀ F, Ent (pre' ++ [F]) (pre ++ [F])) (hk : ∀ v L, K v L → ∃ L2, K2 v L2 ∧ ∀ F, Ent (L ++ [F]) (L2 ++ [F])) : Does P E f args pre' K2 := fun F w hs =>
  (h F w (hp F E w hs)).mono fun _ _ ⟨v, L', he, hK, hs'⟩ =>
    have ⟨L2, h1, h2⟩ := hk v L' hK
    ⟨v, L2, he, h1, h2 F E _ hs'⟩
theorem Does.leaf {P : Program} {E : World} {f : Nat} {args : List Value} {p : Nat} {t : T 0} {L : List HProp} {K : Value → List HProp → Prop} (h : ∀ S R, Does P E f args (ndC p S R :: slc tKv true S (tks 0 t) :: slc tNd true R [] :: L) K) : Does P E f args (nodeA 0 p t :: L) K := fun F w hs =>
  have ⟨g, hg⟩ := Sat.leaf_out (L := L ++ [F]) hs
  h g.1 g.2 F w hg
theorem Does.inner {P : Program} {E : World} {f : Nat} {args : List Value} {d p : Nat} {t : T (d + 1)} {L : List HProp} {K : Value → List HProp → Prop} (h : ∀ (S R : SV) (es : List (Nat × T d)), es.map (·.2) = t.2 → Does P E f args (ndC p S R :: slc tKv true S t.1 :: slc tNd true R (es.map fun e => some e.1) :: stars (es.map (ndE d)) :: L) K) : Does P E f args (nodeA (d + 1) p t :: L) K := fun F w hs =>
  have ⟨g, hg⟩ := Sat.inner_out (L := L ++ [F]) hs
  h g.1.1 g.1.2.1 g.1.2.2 g.2 F w hg
/-- A bound: none, or the key of a pair of a node above. -/
abbrev Lim : Type := Option (SV × List Kv × Kv × List Kv)
abbrev limV : Lim → Value
  | none => .pointer none
  | some (S, A, _, _) => pAt S (A.length * tKv.sz + 0)
def LimOk (E : World) (C : HProp) : Lim → Prop
  | none => True
  | some (S, A, x, B) => ∀ (w : World) (L : List HProp), Sat E w (C :: L) → Rd tKv w S (A ++ x :: B)
def AbvO (l : List Kv) : Lim → Prop
  | none => True
  | some (_, _, x, _) => Abv l x.key
def BelO (l : List Kv) : Lim → Prop
  | none => True
  | some (_, _, x, _) => Bel l x.key
abbrev dep (d : Nat) : Nat → Int
  | 0 => 0
  | _ + 1 => (((d + 1 : Nat)) : Int)
theorem Ent.star_in {A B : HProp} {L : List HProp} : Ent (A :: B :: L) (star A B :: L) := fun _ _ h => Sat.mkstar h
theorem Ent.star_out {A B : HProp} {L : List HProp} : Ent (star A B :: L) (A :: B :: L) := fun _ _ h => Sat.star h
theorem LimOk.st {E : World} {C D : HProp} {lo : Lim} (h : LimOk E C lo) : LimOk E (star C D) lo := by
  cases lo with
  | none => trivial
  | some q =>
    obtain ⟨S, A, x, B⟩ := q
    exact fun w L hs => h w (D :: L) hs.star
theorem LimOk.own {E : World} {C : HProp} {S : SV} {A B : List Kv} {x : Kv} : LimOk E (star C (slc tKv true S (A ++ x :: B))) (some (S, A, x, B)) := fun w L hs => by
  have h1 := hs.star
  have h2 : Sat E w (slc tKv true S (A ++ x :: B) :: C :: L) := Sat.swap2 h1
  exact h2.rd 0 rfl
theorem kl_nle {a b : Ky} (h : kl b a = true) : (Op.bytesLess a b || a == b) = false := by
  rw [less_kl, kl_asymm h, Bool.false_or]
  exact beq_eq_false_iff_ne.2 fun e => kl_ne h e.symm
theorem kl_nge {a b : Ky} (h : kl a b = true) : (!Op.bytesLess a b) = false := by
  rw [less_kl, h]; rfl
attribute [local irreducible] J JL QOp JOp seqQ blockQ loopQ retQ slc cel hex star pur stars Does RV Ent pAt scopeQ
attribute [local irreducible] nodeA nodeX treeA
theorem rbody_ok (E : World) (d p : Nat) (root : Bool) (S R : SV) (K : List Kv) (es : List (Nat × T d)) (C : HProp) (lo hi : Lim) (h7 : K.length ≤ 7) (hrt : root = false → 3 ≤ K.length) (hes : es = [] ∨ es.length = K.length + 1) (hk : Up K) (hlo : LimOk E C lo) (hhi : LimOk E C hi) (hloK : AbvO K lo) (hhiK : BelO K hi) (hd : d ≤ 1000)
    (hch : ∀ (A : List (Nat × T d)) (e : Nat × T d) (B : List (Nat × T d)) (K1 K2 : List Kv), es = A ++ e :: B → K = K1 ++ K2 → K1.length = A.length → ∀ lo' hi' : Lim, (K1 = [] ∧ lo' = lo ∨ ∃ K0 k, K1 = K0 ++ [k] ∧ lo' = some (S, K0, k, K2)) → (K2 = [] ∧ hi' = hi ∨ ∃ k K3, K2 = k :: K3 ∧ hi' = some (S, K1, k, K3)) →
      Does Try.prog E 33 [.pointer (some ⟨e.1, 0, none⟩), .bool false, limV lo', limV hi'] [nodeA d e.1 e.2, star C (slc tKv true S K)] fun v L => v = .tuple #[.int .i64 ((d + 1 : Nat) : Int), .bool true] ∧ L = [nodeA d e.1 e.2, star C (slc tKv true S K)]) :
    Does Try.prog E 33 [.pointer (some ⟨p, 0, none⟩), .bool root, limV lo, limV hi] [ndC p S R, slc tKv true S K, slc tNd true R (pL es), stars (es.map (ndE d)), C] fun v L => v = .tuple #[.int .i64 (dep d es.length + 1), .bool true] ∧ L = [ndC p S R, slc tKv true S K, slc tNd true R (pL es), stars (es.map (ndE d)), C] := by
  have hpl : (pL es).length = es.length := pL_len es
  refine Does.of Try.func33 rfl Try.ntmps33 rfl rfl fun F => ?_
  refine J.norm ?_
  refine J_seq ?_
  refine J_region ?_
  refine L_q (Q_assign rfl) rfl rfl rfl ?_
  refine L_q (Q_assign rfl) rfl rfl rfl ?_
  refine JL_nil ?_
  refine seqQ_normal ?_
  refine J_seq ?_
  refine J_seq ?_
  refine J.mid (fun ρ' L' => envSub [(0, .pointer (some ⟨p, 0, none⟩)), (2, limV lo), (3, limV hi), (55, .bool false)] ρ' ∧ Ent L' [ndC p S R, slc tKv true S K, slc tNd true R (pL es), stars (es.map (ndE d)), C, F]) ?_ ?_
  · have hlf := leaf_ok E p S R (pL es)
    rcases hes with rfl | hes
    · cases root with
      | true =>
        refine J_drawH [0,1,2] [0, 1, 2, 3, 4, 5, 6, 7, 8, 9, 10, 11, 12, 13, 14, 15, 16, 17, 18, 19, 21, 22, 23, 24, 25, 26, 27, 28, 29, 30, 31, 32, 33, 34, 35, 36] (.quiet 0 (.quiet 1 (.quiet 2 (.quiet 3 (.quiet 4 (.quiet 5 (.quiet 6 (.quiet 7 (.quiet 8 (.quiet 9 (.quiet 10 (.quiet 11 (.quiet 12 (.quiet 13 (.quiet 14 (.quiet 15 (.quiet 16 (.quiet 17 (.quiet 18 (.quiet 19 (.loud 20 (.quiet 21 (.quiet 22 (.quiet 23 (.quiet 24 (.quiet 25 (.quiet 26 (.quiet 27 (.quiet 28 (.quiet 29 (.quiet 30 (.quiet 31 (.quiet 32 (.quiet 33 (.quiet 34 (.quiet 35 (.quiet 36 .done))))))))))))))))))))))))))))))))))))) Try.mixed (by kernel_rfl) (by kernel_rfl) (by repeat (first | exact retQ_noP | refine seqQ_noP ?_ | refine blockQ_noP ?_ | refine loopQ_noP ?_ | refine scopeQ_noP ?_ | (intro _ _ _ h; cases h.1))) ?_
        refine S_q (Ent.re [0,1,2] rfl) rfl (Q_move rfl) rfl rfl rfl ?_
        refine S_q (Ent.re [0,1,2] rfl) rfl (Q_nilCheck rfl) rfl rfl rfl ?_
        refine S_q (Ent.re [0,1,2] rfl) rfl (Q_fa0 rfl) rfl rfl rfl ?_
        refine S_q (Ent.re [0,1,2] rfl) rfl (Q_ld 0 rfl rfl rfl rfl) rfl rfl rfl ?_
        refine S_q (Ent.re [0,1,2] rfl) rfl (Q_lenAt 1 rfl rfl) rfl rfl rfl ?_
        refine S_q (Ent.re [0,1,2] rfl) rfl ((Q_gtr rfl rfl).as (v' := .bool false) (congrArg Value.bool (decide_eq_false (by omega)))) rfl rfl rfl ?_
        refine S_q (Ent.re [0,1,2] rfl) rfl (Q_move rfl) rfl rfl rfl ?_
        refine S_q (Ent.re [0,1,2] rfl) rfl (Q_move rfl) rfl rfl rfl ?_
        refine S_q (Ent.re [0,1,2] rfl) rfl ((Q_not rfl).as (v' := .bool false) rfl) rfl rfl rfl ?_
        refine S_q (Ent.re [0,1,2] rfl) rfl (Q_move rfl) rfl rfl rfl ?_
        refine S_n (Ent.re [0,1,2] rfl) rfl rfl rfl rfl ?_
        refine S_n (Ent.re [0,1,2] rfl) rfl rfl rfl rfl ?_
        refine S_n (Ent.re [0,1,2] rfl) rfl rfl rfl rfl ?_
        refine S_n (Ent.re [0,1,2] rfl) rfl rfl rfl rfl ?_
        refine S_n (Ent.re [0,1,2] rfl) rfl rfl rfl rfl ?_
        refine S_n (Ent.re [0,1,2] rfl) rfl rfl rfl rfl ?_
        refine S_q (Ent.re [0,1,2] rfl) rfl (Q_pickF rfl rfl) rfl rfl rfl ?_
        refine S_q (Ent.re [0,1,2] rfl) rfl (Q_pickF rfl rfl) rfl rfl rfl ?_
        refine S_q (Ent.re [0,1,2] rfl) rfl (Q_move rfl) rfl rfl rfl ?_
        refine S_q (Ent.re [0,1,2] rfl) rfl (Q_move rfl) rfl rfl rfl ?_
        refine S_o rfl rfl rfl rfl (O_call [0,2] [1,3,4,5] hlf rfl rfl ?_)
        (rintro _ _ ⟨rfl, rfl⟩; refine ⟨_, fun _ => ⟨Ent.reN [0,2,1] rfl, Ent.refl _⟩, ?_⟩)
        refine JS.norm ?_
        refine S_q (Ent.re [0,2,1] rfl) rfl ((Q_not rfl).as (v' := .bool false) rfl) rfl rfl rfl ?_
        refine S_q (Ent.re [0,2,1] rfl) rfl (Q_move rfl) rfl rfl rfl ?_
        refine S_n (Ent.re [0,2,1] rfl) rfl rfl rfl rfl ?_
        refine S_n (Ent.re [0,2,1] rfl) rfl rfl rfl rfl ?_
        refine S_n (Ent.re [0,2,1] rfl) rfl rfl rfl rfl ?_
        refine S_n (Ent.re [0,2,1] rfl) rfl rfl rfl rfl ?_
        refine S_n (Ent.re [0,2,1] rfl) rfl rfl rfl rfl ?_
        refine S_n (Ent.re [0,2,1] rfl) rfl rfl rfl rfl ?_
        refine S_n (Ent.re [0,2,1] rfl) rfl rfl rfl rfl ?_
        refine S_n (Ent.re [0,2,1] rfl) rfl rfl rfl rfl ?_
        refine S_n (Ent.re [0,2,1] rfl) rfl rfl rfl rfl ?_
        refine S_n (Ent.re [0,2,1] rfl) rfl rfl rfl rfl ?_
        refine S_n (Ent.re [0,2,1] rfl) rfl rfl rfl rfl ?_
        refine S_n (Ent.re [0,2,1] rfl) rfl rfl rfl rfl ?_
        refine S_q (Ent.re [0,2,1] rfl) rfl (Q_pickF rfl rfl) rfl rfl rfl ?_
        refine S_q (Ent.re [0,2,1] rfl) rfl (Q_pickF rfl rfl) rfl rfl rfl ?_
        refine S_nil ?_
        exact ⟨rfl, ⟨rfl, rfl, rfl, rfl, trivial⟩, Ent.re [0, 2, 1, 3, 4, 5] rfl⟩
      | false =>
        refine J_drawH [0,1,2] [0, 1, 2, 3, 4, 5, 6, 7, 8, 9, 10, 11, 12, 13, 14, 15, 16, 17, 18, 19, 21, 22, 23, 24, 25, 26, 27, 28, 29, 30, 31, 32, 33, 34, 35, 36] (.quiet 0 (.quiet 1 (.quiet 2 (.quiet 3 (.quiet 4 (.quiet 5 (.quiet 6 (.quiet 7 (.quiet 8 (.quiet 9 (.quiet 10 (.quiet 11 (.quiet 12 (.quiet 13 (.quiet 14 (.quiet 15 (.quiet 16 (.quiet 17 (.quiet 18 (.quiet 19 (.loud 20 (.quiet 21 (.quiet 22 (.quiet 23 (.quiet 24 (.quiet 25 (.quiet 26 (.quiet 27 (.quiet 28 (.quiet 29 (.quiet 30 (.quiet 31 (.quiet 32 (.quiet 33 (.quiet 34 (.quiet 35 (.quiet 36 .done))))))))))))))))))))))))))))))))))))) Try.mixed (by kernel_rfl) (by kernel_rfl) (by repeat (first | exact retQ_noP | refine seqQ_noP ?_ | refine blockQ_noP ?_ | refine loopQ_noP ?_ | refine scopeQ_noP ?_ | (intro _ _ _ h; cases h.1))) ?_
        refine S_q (Ent.re [0,1,2] rfl) rfl (Q_move rfl) rfl rfl rfl ?_
        refine S_q (Ent.re [0,1,2] rfl) rfl (Q_nilCheck rfl) rfl rfl rfl ?_
        refine S_q (Ent.re [0,1,2] rfl) rfl (Q_fa0 rfl) rfl rfl rfl ?_
        refine S_q (Ent.re [0,1,2] rfl) rfl (Q_ld 0 rfl rfl rfl rfl) rfl rfl rfl ?_
        refine S_q (Ent.re [0,1,2] rfl) rfl (Q_lenAt 1 rfl rfl) rfl rfl rfl ?_
        refine S_q (Ent.re [0,1,2] rfl) rfl ((Q_gtr rfl rfl).as (v' := .bool false) (congrArg Value.bool (decide_eq_false (by omega)))) rfl rfl rfl ?_
        refine S_q (Ent.re [0,1,2] rfl) rfl (Q_move rfl) rfl rfl rfl ?_
        refine S_q (Ent.re [0,1,2] rfl) rfl (Q_move rfl) rfl rfl rfl ?_
        refine S_q (Ent.re [0,1,2] rfl) rfl ((Q_not rfl).as (v' := .bool true) rfl) rfl rfl rfl ?_
        refine S_q (Ent.re [0,1,2] rfl) rfl (Q_move rfl) rfl rfl rfl ?_
        refine S_q (Ent.re [0,1,2] rfl) rfl (Q_move rfl) rfl rfl rfl ?_
        refine S_q (Ent.re [0,1,2] rfl) rfl (Q_nilCheck rfl) rfl rfl rfl ?_
        refine S_q (Ent.re [0,1,2] rfl) rfl (Q_fa0 rfl) rfl rfl rfl ?_
        refine S_q (Ent.re [0,1,2] rfl) rfl (Q_ld 0 rfl rfl rfl rfl) rfl rfl rfl ?_
        refine S_q (Ent.re [0,1,2] rfl) rfl (Q_lenAt 1 rfl rfl) rfl rfl rfl ?_
        refine S_q (Ent.re [0,1,2] rfl) rfl ((Q_lss rfl rfl).as (v' := .bool false) (congrArg Value.bool (decide_eq_false (by have := hrt rfl; omega)))) rfl rfl rfl ?_
        refine S_q (Ent.re [0,1,2] rfl) rfl (Q_pickT rfl rfl) rfl rfl rfl ?_
        refine S_q (Ent.re [0,1,2] rfl) rfl (Q_pickF rfl rfl) rfl rfl rfl ?_
        refine S_q (Ent.re [0,1,2] rfl) rfl (Q_move rfl) rfl rfl rfl ?_
        refine S_q (Ent.re [0,1,2] rfl) rfl (Q_move rfl) rfl rfl rfl ?_
        refine S_o rfl rfl rfl rfl (O_call [0,2] [1,3,4,5] hlf rfl rfl ?_)
        (rintro _ _ ⟨rfl, rfl⟩; refine ⟨_, fun _ => ⟨Ent.reN [0,2,1] rfl, Ent.refl _⟩, ?_⟩)
        refine JS.norm ?_
        refine S_q (Ent.re [0,2,1] rfl) rfl ((Q_not rfl).as (v' := .bool false) rfl) rfl rfl rfl ?_
        refine S_q (Ent.re [0,2,1] rfl) rfl (Q_move rfl) rfl rfl rfl ?_
        refine S_n (Ent.re [0,2,1] rfl) rfl rfl rfl rfl ?_
        refine S_n (Ent.re [0,2,1] rfl) rfl rfl rfl rfl ?_
        refine S_n (Ent.re [0,2,1] rfl) rfl rfl rfl rfl ?_
        refine S_n (Ent.re [0,2,1] rfl) rfl rfl rfl rfl ?_
        refine S_n (Ent.re [0,2,1] rfl) rfl rfl rfl rfl ?_
        refine S_n (Ent.re [0,2,1] rfl) rfl rfl rfl rfl ?_
        refine S_n (Ent.re [0,2,1] rfl) rfl rfl rfl rfl ?_
        refine S_n (Ent.re [0,2,1] rfl) rfl rfl rfl rfl ?_
        refine S_n (Ent.re [0,2,1] rfl) rfl rfl rfl rfl ?_
        refine S_n (Ent.re [0,2,1] rfl) rfl rfl rfl rfl ?_
        refine S_n (Ent.re [0,2,1] rfl) rfl rfl rfl rfl ?_
        refine S_n (Ent.re [0,2,1] rfl) rfl rfl rfl rfl ?_
        refine S_q (Ent.re [0,2,1] rfl) rfl (Q_pickF rfl rfl) rfl rfl rfl ?_
        refine S_q (Ent.re [0,2,1] rfl) rfl (Q_pickF rfl rfl) rfl rfl rfl ?_
        refine S_nil ?_
        exact ⟨rfl, ⟨rfl, rfl, rfl, rfl, trivial⟩, Ent.re [0, 2, 1, 3, 4, 5] rfl⟩
    · rw [show decide (((pL es).length : Int) = 0) = false from decide_eq_false (by omega)] at hlf
      cases root with
      | true =>
        refine J_drawH [0,1,2] [0, 1, 2, 3, 4, 5, 6, 7, 8, 9, 10, 11, 12, 13, 14, 15, 16, 17, 18, 19, 21, 22, 23, 24, 25, 26, 27, 28, 29, 30, 31, 32, 33, 34, 35, 36] (.quiet 0 (.quiet 1 (.quiet 2 (.quiet 3 (.quiet 4 (.quiet 5 (.quiet 6 (.quiet 7 (.quiet 8 (.quiet 9 (.quiet 10 (.quiet 11 (.quiet 12 (.quiet 13 (.quiet 14 (.quiet 15 (.quiet 16 (.quiet 17 (.quiet 18 (.quiet 19 (.loud 20 (.quiet 21 (.quiet 22 (.quiet 23 (.quiet 24 (.quiet 25 (.quiet 26 (.quiet 27 (.quiet 28 (.quiet 29 (.quiet 30 (.quiet 31 (.quiet 32 (.quiet 33 (.quiet 34 (.quiet 35 (.quiet 36 .done))))))))))))))))))))))))))))))))))))) Try.mixed (by kernel_rfl) (by kernel_rfl) (by repeat (first | exact retQ_noP | refine seqQ_noP ?_ | refine blockQ_noP ?_ | refine loopQ_noP ?_ | refine scopeQ_noP ?_ | (intro _ _ _ h; cases h.1))) ?_
        refine S_q (Ent.re [0,1,2] rfl) rfl (Q_move rfl) rfl rfl rfl ?_
        refine S_q (Ent.re [0,1,2] rfl) rfl (Q_nilCheck rfl) rfl rfl rfl ?_
        refine S_q (Ent.re [0,1,2] rfl) rfl (Q_fa0 rfl) rfl rfl rfl ?_
        refine S_q (Ent.re [0,1,2] rfl) rfl (Q_ld 0 rfl rfl rfl rfl) rfl rfl rfl ?_
        refine S_q (Ent.re [0,1,2] rfl) rfl (Q_lenAt 1 rfl rfl) rfl rfl rfl ?_
        refine S_q (Ent.re [0,1,2] rfl) rfl ((Q_gtr rfl rfl).as (v' := .bool false) (congrArg Value.bool (decide_eq_false (by omega)))) rfl rfl rfl ?_
        refine S_q (Ent.re [0,1,2] rfl) rfl (Q_move rfl) rfl rfl rfl ?_
        refine S_q (Ent.re [0,1,2] rfl) rfl (Q_move rfl) rfl rfl rfl ?_
        refine S_q (Ent.re [0,1,2] rfl) rfl ((Q_not rfl).as (v' := .bool false) rfl) rfl rfl rfl ?_
        refine S_q (Ent.re [0,1,2] rfl) rfl (Q_move rfl) rfl rfl rfl ?_
        refine S_n (Ent.re [0,1,2] rfl) rfl rfl rfl rfl ?_
        refine S_n (Ent.re [0,1,2] rfl) rfl rfl rfl rfl ?_
        refine S_n (Ent.re [0,1,2] rfl) rfl rfl rfl rfl ?_
        refine S_n (Ent.re [0,1,2] rfl) rfl rfl rfl rfl ?_
        refine S_n (Ent.re [0,1,2] rfl) rfl rfl rfl rfl ?_
        refine S_n (Ent.re [0,1,2] rfl) rfl rfl rfl rfl ?_
        refine S_q (Ent.re [0,1,2] rfl) rfl (Q_pickF rfl rfl) rfl rfl rfl ?_
        refine S_q (Ent.re [0,1,2] rfl) rfl (Q_pickF rfl rfl) rfl rfl rfl ?_
        refine S_q (Ent.re [0,1,2] rfl) rfl (Q_move rfl) rfl rfl rfl ?_
        refine S_q (Ent.re [0,1,2] rfl) rfl (Q_move rfl) rfl rfl rfl ?_
        refine S_o rfl rfl rfl rfl (O_call [0,2] [1,3,4,5] hlf rfl rfl ?_)
        (rintro _ _ ⟨rfl, rfl⟩; refine ⟨_, fun _ => ⟨Ent.reN [0,2,1] rfl, Ent.refl _⟩, ?_⟩)
        refine JS.norm ?_
        refine S_q (Ent.re [0,2,1] rfl) rfl ((Q_not rfl).as (v' := .bool true) rfl) rfl rfl rfl ?_
        refine S_q (Ent.re [0,2,1] rfl) rfl (Q_move rfl) rfl rfl rfl ?_
        refine S_q (Ent.re [0,2,1] rfl) rfl (Q_move rfl) rfl rfl rfl ?_
        refine S_q (Ent.re [0,2,1] rfl) rfl (Q_nilCheck rfl) rfl rfl rfl ?_
        refine S_q (Ent.re [0,2,1] rfl) rfl (Q_fa0 rfl) rfl rfl rfl ?_
        refine S_q (Ent.re [0,2,1] rfl) rfl (Q_ld 0 rfl rfl rfl rfl) rfl rfl rfl ?_
        refine S_q (Ent.re [0,2,1] rfl) rfl (Q_lenAt 2 rfl rfl) rfl rfl rfl ?_
        refine S_q (Ent.re [0,2,1] rfl) rfl (Q_move rfl) rfl rfl rfl ?_
        refine S_q (Ent.re [0,2,1] rfl) rfl (Q_nilCheck rfl) rfl rfl rfl ?_
        refine S_q (Ent.re [0,2,1] rfl) rfl (Q_fa0 rfl) rfl rfl rfl ?_
        refine S_q (Ent.re [0,2,1] rfl) rfl (Q_ld 0 rfl rfl rfl rfl) rfl rfl rfl ?_
        refine S_q (Ent.re [0,2,1] rfl) rfl (Q_lenAt 1 rfl rfl) rfl rfl rfl ?_
        refine S_q (Ent.re [0,2,1] rfl) rfl (Q_add rfl rfl (by first | exact IntWalk.i64_in _ (by omega) | exact IntWalk.u8_in _ (by omega) | exact IntWalk.u32_in _ (by omega) | exact IntWalk.u64_in _ (by omega) | rfl)) rfl rfl rfl ?_
        refine S_q (Ent.re [0,2,1] rfl) rfl ((Q_neq rfl rfl).as (v' := .bool false) (congrArg Value.bool (decide_eq_false (by omega)))) rfl rfl rfl ?_
        refine S_q (Ent.re [0,2,1] rfl) rfl (Q_pickT rfl rfl) rfl rfl rfl ?_
        refine S_q (Ent.re [0,2,1] rfl) rfl (Q_pickF rfl rfl) rfl rfl rfl ?_
        refine S_nil ?_
        exact ⟨rfl, ⟨rfl, rfl, rfl, rfl, trivial⟩, Ent.re [0, 2, 1, 3, 4, 5] rfl⟩
      | false =>
        refine J_drawH [0,1,2] [0, 1, 2, 3, 4, 5, 6, 7, 8, 9, 10, 11, 12, 13, 14, 15, 16, 17, 18, 19, 21, 22, 23, 24, 25, 26, 27, 28, 29, 30, 31, 32, 33, 34, 35, 36] (.quiet 0 (.quiet 1 (.quiet 2 (.quiet 3 (.quiet 4 (.quiet 5 (.quiet 6 (.quiet 7 (.quiet 8 (.quiet 9 (.quiet 10 (.quiet 11 (.quiet 12 (.quiet 13 (.quiet 14 (.quiet 15 (.quiet 16 (.quiet 17 (.quiet 18 (.quiet 19 (.loud 20 (.quiet 21 (.quiet 22 (.quiet 23 (.quiet 24 (.quiet 25 (.quiet 26 (.quiet 27 (.quiet 28 (.quiet 29 (.quiet 30 (.quiet 31 (.quiet 32 (.quiet 33 (.quiet 34 (.quiet 35 (.quiet 36 .done))))))))))))))))))))))))))))))))))))) Try.mixed (by kernel_rfl) (by kernel_rfl) (by repeat (first | exact retQ_noP | refine seqQ_noP ?_ | refine blockQ_noP ?_ | refine loopQ_noP ?_ | refine scopeQ_noP ?_ | (intro _ _ _ h; cases h.1))) ?_
        refine S_q (Ent.re [0,1,2] rfl) rfl (Q_move rfl) rfl rfl rfl ?_
        refine S_q (Ent.re [0,1,2] rfl) rfl (Q_nilCheck rfl) rfl rfl rfl ?_
        refine S_q (Ent.re [0,1,2] rfl) rfl (Q_fa0 rfl) rfl rfl rfl ?_
        refine S_q (Ent.re [0,1,2] rfl) rfl (Q_ld 0 rfl rfl rfl rfl) rfl rfl rfl ?_
        refine S_q (Ent.re [0,1,2] rfl) rfl (Q_lenAt 1 rfl rfl) rfl rfl rfl ?_
        refine S_q (Ent.re [0,1,2] rfl) rfl ((Q_gtr rfl rfl).as (v' := .bool false) (congrArg Value.bool (decide_eq_false (by omega)))) rfl rfl rfl ?_
        refine S_q (Ent.re [0,1,2] rfl) rfl (Q_move rfl) rfl rfl rfl ?_
        refine S_q (Ent.re [0,1,2] rfl) rfl (Q_move rfl) rfl rfl rfl ?_
        refine S_q (Ent.re [0,1,2] rfl) rfl ((Q_not rfl).as (v' := .bool true) rfl) rfl rfl rfl ?_
        refine S_q (Ent.re [0,1,2] rfl) rfl (Q_move rfl) rfl rfl rfl ?_
        refine S_q (Ent.re [0,1,2] rfl) rfl (Q_move rfl) rfl rfl rfl ?_
        refine S_q (Ent.re [0,1,2] rfl) rfl (Q_nilCheck rfl) rfl rfl rfl ?_
        refine S_q (Ent.re [0,1,2] rfl) rfl (Q_fa0 rfl) rfl rfl rfl ?_
        refine S_q (Ent.re [0,1,2] rfl) rfl (Q_ld 0 rfl rfl rfl rfl) rfl rfl rfl ?_
        refine S_q (Ent.re [0,1,2] rfl) rfl (Q_lenAt 1 rfl rfl) rfl rfl rfl ?_
        refine S_q (Ent.re [0,1,2] rfl) rfl ((Q_lss rfl rfl).as (v' := .bool false) (congrArg Value.bool (decide_eq_false (by have := hrt rfl; omega)))) rfl rfl rfl ?_
        refine S_q (Ent.re [0,1,2] rfl) rfl (Q_pickT rfl rfl) rfl rfl rfl ?_
        refine S_q (Ent.re [0,1,2] rfl) rfl (Q_pickF rfl rfl) rfl rfl rfl ?_
        refine S_q (Ent.re [0,1,2] rfl) rfl (Q_move rfl) rfl rfl rfl ?_
        refine S_q (Ent.re [0,1,2] rfl) rfl (Q_move rfl) rfl rfl rfl ?_
        refine S_o rfl rfl rfl rfl (O_call [0,2] [1,3,4,5] hlf rfl rfl ?_)
        (rintro _ _ ⟨rfl, rfl⟩; refine ⟨_, fun _ => ⟨Ent.reN [0,2,1] rfl, Ent.refl _⟩, ?_⟩)
        refine JS.norm ?_
        refine S_q (Ent.re [0,2,1] rfl) rfl ((Q_not rfl).as (v' := .bool true) rfl) rfl rfl rfl ?_
        refine S_q (Ent.re [0,2,1] rfl) rfl (Q_move rfl) rfl rfl rfl ?_
        refine S_q (Ent.re [0,2,1] rfl) rfl (Q_move rfl) rfl rfl rfl ?_
        refine S_q (Ent.re [0,2,1] rfl) rfl (Q_nilCheck rfl) rfl rfl rfl ?_
        refine S_q (Ent.re [0,2,1] rfl) rfl (Q_fa0 rfl) rfl rfl rfl ?_
        refine S_q (Ent.re [0,2,1] rfl) rfl (Q_ld 0 rfl rfl rfl rfl) rfl rfl rfl ?_
        refine S_q (Ent.re [0,2,1] rfl) rfl (Q_lenAt 2 rfl rfl) rfl rfl rfl ?_
        refine S_q (Ent.re [0,2,1] rfl) rfl (Q_move rfl) rfl rfl rfl ?_
        refine S_q (Ent.re [0,2,1] rfl) rfl (Q_nilCheck rfl) rfl rfl rfl ?_
        refine S_q (Ent.re [0,2,1] rfl) rfl (Q_fa0 rfl) rfl rfl rfl ?_
        refine S_q (Ent.re [0,2,1] rfl) rfl (Q_ld 0 rfl rfl rfl rfl) rfl rfl rfl ?_
        refine S_q (Ent.re [0,2,1] rfl) rfl (Q_lenAt 1 rfl rfl) rfl rfl rfl ?_
        refine S_q (Ent.re [0,2,1] rfl) rfl (Q_add rfl rfl (by first | exact IntWalk.i64_in _ (by omega) | exact IntWalk.u8_in _ (by omega) | exact IntWalk.u32_in _ (by omega) | exact IntWalk.u64_in _ (by omega) | rfl)) rfl rfl rfl ?_
        refine S_q (Ent.re [0,2,1] rfl) rfl ((Q_neq rfl rfl).as (v' := .bool false) (congrArg Value.bool (decide_eq_false (by omega)))) rfl rfl rfl ?_
        refine S_q (Ent.re [0,2,1] rfl) rfl (Q_pickT rfl rfl) rfl rfl rfl ?_
        refine S_q (Ent.re [0,2,1] rfl) rfl (Q_pickF rfl rfl) rfl rfl rfl ?_
        refine S_nil ?_
        exact ⟨rfl, ⟨rfl, rfl, rfl, rfl, trivial⟩, Ent.re [0, 2, 1, 3, 4, 5] rfl⟩
  rintro ρ1 L1 ⟨hsub, hent⟩
  refine J.sub hsub ?_
  refine J.ent hent ?_
  clear hsub hent
  refine J_condF rfl ?_
  refine J_skip ?_
  refine seqQ_normal ?_
  refine J_seq ?_
  refine J_seq ?_
  refine J_region ?_
  refine L_q (Q_move rfl) rfl rfl rfl ?_
  refine L_q (Q_nilCheck rfl) rfl rfl rfl ?_
  refine L_q (Q_fa0 rfl) rfl rfl rfl ?_
  refine L_q (Q_ld 0 rfl rfl rfl rfl) rfl rfl rfl ?_
  refine L_q (Q_lenAt 1 rfl rfl) rfl rfl rfl ?_
  refine L_q (Q_move rfl) rfl rfl rfl ?_
  refine JL_nil ?_
  refine seqQ_normal ?_
  refine J_block ?_
  refine J.cutB (fun x ρ' L' => x = .normal ∧ envSub [(0, .pointer (some ⟨p, 0, none⟩)), (2, limV lo), (3, limV hi)] ρ' ∧ Ent L' [ndC p S R, slc tKv true S K, slc tNd true R (pL es), stars (es.map (ndE d)), C, F]) ?_ ?_
  · refine J_loop (fun i : Nat => i ≤ K.length) (fun i => [(0, .pointer (some ⟨p, 0, none⟩)), (2, limV lo), (3, limV hi), (60, .int .i64 (K.length : Int)), (61, .int .i64 (i : Int))]) (fun _ => [ndC p S R, slc tKv true S K, slc tNd true R (pL es), stars (es.map (ndE d)), C, F]) (fun i => K.length - i) 0 (Nat.zero_le _) ⟨rfl, rfl, rfl, rfl, rfl, trivial⟩ (Ent.refl _) ?_
    intro i hi'
    refine J_seq ?_
    refine J_region ?_
    refine L_q (Q_lss rfl rfl) rfl rfl rfl ?_
    refine JL_nil ?_
    refine seqQ_normal ?_
    refine J_seq ?_
    refine J_condD rfl (fun h => ?_) (fun h => ?_)
    · have hlt : i < K.length := by omega
      refine J_skip ?_
      refine seqQ_normal ?_
      refine J_seq ?_
      refine J_block ?_
      refine J_seq ?_
      refine J_region ?_
      refine L_q (Q_move rfl) rfl rfl rfl ?_
      refine L_q (Q_assign rfl) rfl rfl rfl ?_
      refine JL_nil ?_
      refine seqQ_normal ?_
      refine J_seq ?_
      refine J_region ?_
      refine L_q (Q_move rfl) rfl rfl rfl ?_
      refine L_q (Q_nilCheck rfl) rfl rfl rfl ?_
      refine L_q (Q_fa0 rfl) rfl rfl rfl ?_
      refine L_q (Q_ld 0 rfl rfl rfl rfl) rfl rfl rfl ?_
      refine L_q (Q_move rfl) rfl rfl rfl ?_
      refine L_q (Q_ixAt 1 i rfl rfl rfl rfl hlt rfl) rfl rfl rfl ?_
      refine L_q (Q_pfa rfl) rfl rfl rfl ?_
      refine L_q (Q_assign rfl) rfl rfl rfl ?_
      refine JL_nil ?_
      refine seqQ_normal ?_
      refine J_seq ?_
      refine J.mid (fun ρ' L' => envSub [(0, .pointer (some ⟨p, 0, none⟩)), (2, limV lo), (3, limV hi), (60, .int .i64 (K.length : Int)), (61, .int .i64 (i : Int)), (113, .bool false)] ρ' ∧ Ent L' [ndC p S R, slc tKv true S K, slc tNd true R (pL es), stars (es.map (ndE d)), C, F]) ?_ ?_
      · have hmem : K[i] ∈ K := List.getElem_mem hlt
        rcases Nat.eq_zero_or_pos i with hi0 | hi0
        · cases lo with
          | none =>
            cases hi with
            | none =>
              refine J_drawH [4,0,1] [0, 1, 2, 3, 4, 5, 6, 7, 8, 9, 10, 11, 12, 13, 14, 15, 16, 17, 18, 19, 20, 21, 22, 23, 24, 25, 26, 27, 28, 29, 30, 31, 32, 33, 34, 35, 36, 37, 38, 39, 40, 41, 42] (.quiet 0 (.quiet 1 (.quiet 2 (.quiet 3 (.quiet 4 (.quiet 5 (.quiet 6 (.quiet 7 (.quiet 8 (.quiet 9 (.quiet 10 (.quiet 11 (.quiet 12 (.quiet 13 (.quiet 14 (.quiet 15 (.quiet 16 (.quiet 17 (.quiet 18 (.quiet 19 (.quiet 20 (.quiet 21 (.quiet 22 (.quiet 23 (.quiet 24 (.quiet 25 (.quiet 26 (.quiet 27 (.quiet 28 (.quiet 29 (.quiet 30 (.quiet 31 (.quiet 32 (.quiet 33 (.quiet 34 (.quiet 35 (.quiet 36 (.quiet 37 (.quiet 38 (.quiet 39 (.quiet 40 (.quiet 41 (.quiet 42 .done))))))))))))))))))))))))))))))))))))))))))) Try.mixed (by kernel_rfl) (by kernel_rfl) (by repeat (first | exact retQ_noP | refine seqQ_noP ?_ | refine blockQ_noP ?_ | refine loopQ_noP ?_ | refine scopeQ_noP ?_ | (intro _ _ _ h; cases h.1))) ?_
              refine S_q (Ent.re [4,0,1] rfl) rfl (Q_move rfl) rfl rfl rfl ?_
              refine S_q (Ent.re [4,0,1] rfl) rfl ((Q_pneq (a := none) rfl rfl).as (v' := .bool false) rfl) rfl rfl rfl ?_
              refine S_q (Ent.re [4,0,1] rfl) rfl (Q_move rfl) rfl rfl rfl ?_
              refine S_n (Ent.re [4,0,1] rfl) rfl rfl rfl rfl ?_
              refine S_n (Ent.re [4,0,1] rfl) rfl rfl rfl rfl ?_
              refine S_n (Ent.re [4,0,1] rfl) rfl rfl rfl rfl ?_
              refine S_n (Ent.re [4,0,1] rfl) rfl rfl rfl rfl ?_
              refine S_n (Ent.re [4,0,1] rfl) rfl rfl rfl rfl ?_
              refine S_n (Ent.re [4,0,1] rfl) rfl rfl rfl rfl ?_
              refine S_n (Ent.re [4,0,1] rfl) rfl rfl rfl rfl ?_
              refine S_q (Ent.re [4,0,1] rfl) rfl (Q_pickF rfl rfl) rfl rfl rfl ?_
              refine S_q (Ent.re [4,0,1] rfl) rfl (Q_move rfl) rfl rfl rfl ?_
              refine S_q (Ent.re [4,0,1] rfl) rfl (Q_move rfl) rfl rfl rfl ?_
              refine S_q (Ent.re [4,0,1] rfl) rfl ((Q_pneq (a := none) rfl rfl).as (v' := .bool false) rfl) rfl rfl rfl ?_
              refine S_q (Ent.re [4,0,1] rfl) rfl (Q_move rfl) rfl rfl rfl ?_
              refine S_n (Ent.re [4,0,1] rfl) rfl rfl rfl rfl ?_
              refine S_n (Ent.re [4,0,1] rfl) rfl rfl rfl rfl ?_
              refine S_n (Ent.re [4,0,1] rfl) rfl rfl rfl rfl ?_
              refine S_n (Ent.re [4,0,1] rfl) rfl rfl rfl rfl ?_
              refine S_n (Ent.re [4,0,1] rfl) rfl rfl rfl rfl ?_
              refine S_n (Ent.re [4,0,1] rfl) rfl rfl rfl rfl ?_
              refine S_n (Ent.re [4,0,1] rfl) rfl rfl rfl rfl ?_
              refine S_q (Ent.re [4,0,1] rfl) rfl (Q_pickF rfl rfl) rfl rfl rfl ?_
              refine S_q (Ent.re [4,0,1] rfl) rfl (Q_pickF rfl rfl) rfl rfl rfl ?_
              refine S_q (Ent.re [4,0,1] rfl) rfl (Q_move rfl) rfl rfl rfl ?_
              refine S_q (Ent.re [4,0,1] rfl) rfl (Q_move rfl) rfl rfl rfl ?_
              refine S_q (Ent.re [4,0,1] rfl) rfl ((Q_gtr rfl rfl).as (v' := .bool false) (congrArg Value.bool (decide_eq_false (by omega)))) rfl rfl rfl ?_
              refine S_q (Ent.re [4,0,1] rfl) rfl (Q_move rfl) rfl rfl rfl ?_
              refine S_n (Ent.re [4,0,1] rfl) rfl rfl rfl rfl ?_
              refine S_n (Ent.re [4,0,1] rfl) rfl rfl rfl rfl ?_
              refine S_n (Ent.re [4,0,1] rfl) rfl rfl rfl rfl ?_
              refine S_n (Ent.re [4,0,1] rfl) rfl rfl rfl rfl ?_
              refine S_n (Ent.re [4,0,1] rfl) rfl rfl rfl rfl ?_
              refine S_n (Ent.re [4,0,1] rfl) rfl rfl rfl rfl ?_
              refine S_n (Ent.re [4,0,1] rfl) rfl rfl rfl rfl ?_
              refine S_n (Ent.re [4,0,1] rfl) rfl rfl rfl rfl ?_
              refine S_n (Ent.re [4,0,1] rfl) rfl rfl rfl rfl ?_
              refine S_n (Ent.re [4,0,1] rfl) rfl rfl rfl rfl ?_
              refine S_n (Ent.re [4,0,1] rfl) rfl rfl rfl rfl ?_
              refine S_n (Ent.re [4,0,1] rfl) rfl rfl rfl rfl ?_
              refine S_n (Ent.re [4,0,1] rfl) rfl rfl rfl rfl ?_
              refine S_q (Ent.re [4,0,1] rfl) rfl (Q_pickF rfl rfl) rfl rfl rfl ?_
              refine S_q (Ent.re [4,0,1] rfl) rfl (Q_pickF rfl rfl) rfl rfl rfl ?_
              refine S_nil ?_
              exact ⟨rfl, ⟨rfl, rfl, rfl, rfl, rfl, rfl, trivial⟩, Ent.refl _⟩
            | some qh =>
              obtain ⟨Sh, Ah, xh, Bh⟩ := qh
              have hhl : Ah.length < (Ah ++ xh :: Bh).length := by simp
              have hhg : (Ah ++ xh :: Bh)[Ah.length] = xh := get_mid rfl hhl
              refine J_drawH [4,0,1] [0, 1, 2, 3, 4, 5, 6, 7, 8, 9, 10, 11, 12, 13, 14, 15, 16, 17, 18, 19, 20, 21, 22, 23, 24, 25, 26, 27, 28, 29, 30, 31, 32, 33, 34, 35, 36, 37, 38, 39, 40, 41, 42] (.quiet 0 (.quiet 1 (.quiet 2 (.quiet 3 (.quiet 4 (.quiet 5 (.quiet 6 (.quiet 7 (.quiet 8 (.quiet 9 (.quiet 10 (.quiet 11 (.quiet 12 (.quiet 13 (.quiet 14 (.quiet 15 (.quiet 16 (.quiet 17 (.quiet 18 (.quiet 19 (.quiet 20 (.quiet 21 (.quiet 22 (.quiet 23 (.quiet 24 (.quiet 25 (.quiet 26 (.quiet 27 (.quiet 28 (.quiet 29 (.quiet 30 (.quiet 31 (.quiet 32 (.quiet 33 (.quiet 34 (.quiet 35 (.quiet 36 (.quiet 37 (.quiet 38 (.quiet 39 (.quiet 40 (.quiet 41 (.quiet 42 .done))))))))))))))))))))))))))))))))))))))))))) Try.mixed (by kernel_rfl) (by kernel_rfl) (by repeat (first | exact retQ_noP | refine seqQ_noP ?_ | refine blockQ_noP ?_ | refine loopQ_noP ?_ | refine scopeQ_noP ?_ | (intro _ _ _ h; cases h.1))) ?_
              refine S_q (Ent.re [4,0,1] rfl) rfl (Q_move rfl) rfl rfl rfl ?_
              refine S_q (Ent.re [4,0,1] rfl) rfl ((Q_pneq (a := none) rfl rfl).as (v' := .bool false) rfl) rfl rfl rfl ?_
              refine S_q (Ent.re [4,0,1] rfl) rfl (Q_move rfl) rfl rfl rfl ?_
              refine S_n (Ent.re [4,0,1] rfl) rfl rfl rfl rfl ?_
              refine S_n (Ent.re [4,0,1] rfl) rfl rfl rfl rfl ?_
              refine S_n (Ent.re [4,0,1] rfl) rfl rfl rfl rfl ?_
              refine S_n (Ent.re [4,0,1] rfl) rfl rfl rfl rfl ?_
              refine S_n (Ent.re [4,0,1] rfl) rfl rfl rfl rfl ?_
              refine S_n (Ent.re [4,0,1] rfl) rfl rfl rfl rfl ?_
              refine S_n (Ent.re [4,0,1] rfl) rfl rfl rfl rfl ?_
              refine S_q (Ent.re [4,0,1] rfl) rfl (Q_pickF rfl rfl) rfl rfl rfl ?_
              refine S_q (Ent.re [4,0,1] rfl) rfl (Q_move rfl) rfl rfl rfl ?_
              refine S_q (Ent.re [4,0,1] rfl) rfl (Q_move rfl) rfl rfl rfl ?_
              refine S_q (Ent.re [4,0,1] rfl) rfl (Q_pneA rfl rfl) rfl rfl rfl ?_
              refine S_q (Ent.re [4,0,1] rfl) rfl (Q_move rfl) rfl rfl rfl ?_
              refine S_q (Ent.re [4,0,1] rfl) rfl (Q_move rfl) rfl rfl rfl ?_
              refine S_q (Ent.re [4,0,1] rfl) rfl (Q_pnil rfl) rfl rfl rfl ?_
              refine S_q (Ent.re [4,0,1] rfl) rfl (Q_ldEAt 2 i 0 (v := str K[i].key) rfl rfl rfl rfl hlt (by decide) rfl) rfl rfl rfl ?_
              refine S_q (Ent.re [4,0,1] rfl) rfl (Q_move rfl) rfl rfl rfl ?_
              refine S_q (Ent.re [4,0,1] rfl) rfl (Q_pnil rfl) rfl rfl rfl ?_
              refine S_q (Ent.re [4,0,1] rfl) rfl (Q_ldE (τ := tKv) Ah.length 0 (v := str xh.key) (fun w h => hhi w _ h) rfl rfl rfl hhl (by decide) (by rw [hhg]; rfl)) rfl rfl rfl ?_
              refine S_q (Ent.re [4,0,1] rfl) rfl ((Q_sgeq rfl rfl).as (v' := .bool false) (congrArg Value.bool (kl_nge (hhiK _ hmem)))) rfl rfl rfl ?_
              refine S_q (Ent.re [4,0,1] rfl) rfl (Q_pickT rfl rfl) rfl rfl rfl ?_
              refine S_q (Ent.re [4,0,1] rfl) rfl (Q_pickF rfl rfl) rfl rfl rfl ?_
              refine S_q (Ent.re [4,0,1] rfl) rfl (Q_move rfl) rfl rfl rfl ?_
              refine S_q (Ent.re [4,0,1] rfl) rfl (Q_move rfl) rfl rfl rfl ?_
              refine S_q (Ent.re [4,0,1] rfl) rfl ((Q_gtr rfl rfl).as (v' := .bool false) (congrArg Value.bool (decide_eq_false (by omega)))) rfl rfl rfl ?_
              refine S_q (Ent.re [4,0,1] rfl) rfl (Q_move rfl) rfl rfl rfl ?_
              refine S_n (Ent.re [4,0,1] rfl) rfl rfl rfl rfl ?_
              refine S_n (Ent.re [4,0,1] rfl) rfl rfl rfl rfl ?_
              refine S_n (Ent.re [4,0,1] rfl) rfl rfl rfl rfl ?_
              refine S_n (Ent.re [4,0,1] rfl) rfl rfl rfl rfl ?_
              refine S_n (Ent.re [4,0,1] rfl) rfl rfl rfl rfl ?_
              refine S_n (Ent.re [4,0,1] rfl) rfl rfl rfl rfl ?_
              refine S_n (Ent.re [4,0,1] rfl) rfl rfl rfl rfl ?_
              refine S_n (Ent.re [4,0,1] rfl) rfl rfl rfl rfl ?_
              refine S_n (Ent.re [4,0,1] rfl) rfl rfl rfl rfl ?_
              refine S_n (Ent.re [4,0,1] rfl) rfl rfl rfl rfl ?_
              refine S_n (Ent.re [4,0,1] rfl) rfl rfl rfl rfl ?_
              refine S_n (Ent.re [4,0,1] rfl) rfl rfl rfl rfl ?_
              refine S_n (Ent.re [4,0,1] rfl) rfl rfl rfl rfl ?_
              refine S_q (Ent.re [4,0,1] rfl) rfl (Q_pickF rfl rfl) rfl rfl rfl ?_
              refine S_q (Ent.re [4,0,1] rfl) rfl (Q_pickF rfl rfl) rfl rfl rfl ?_
              refine S_nil ?_
              exact ⟨rfl, ⟨rfl, rfl, rfl, rfl, rfl, rfl, trivial⟩, Ent.refl _⟩
          | some ql =>
            obtain ⟨Sl, Al, xl, Bl⟩ := ql
            have hll : Al.length < (Al ++ xl :: Bl).length := by simp
            have hlg : (Al ++ xl :: Bl)[Al.length] = xl := get_mid rfl hll
            cases hi with
            | none =>
              refine J_drawH [4,0,1] [0, 1, 2, 3, 4, 5, 6, 7, 8, 9, 10, 11, 12, 13, 14, 15, 16, 17, 18, 19, 20, 21, 22, 23, 24, 25, 26, 27, 28, 29, 30, 31, 32, 33, 34, 35, 36, 37, 38, 39, 40, 41, 42] (.quiet 0 (.quiet 1 (.quiet 2 (.quiet 3 (.quiet 4 (.quiet 5 (.quiet 6 (.quiet 7 (.quiet 8 (.quiet 9 (.quiet 10 (.quiet 11 (.quiet 12 (.quiet 13 (.quiet 14 (.quiet 15 (.quiet 16 (.quiet 17 (.quiet 18 (.quiet 19 (.quiet 20 (.quiet 21 (.quiet 22 (.quiet 23 (.quiet 24 (.quiet 25 (.quiet 26 (.quiet 27 (.quiet 28 (.quiet 29 (.quiet 30 (.quiet 31 (.quiet 32 (.quiet 33 (.quiet 34 (.quiet 35 (.quiet 36 (.quiet 37 (.quiet 38 (.quiet 39 (.quiet 40 (.quiet 41 (.quiet 42 .done))))))))))))))))))))))))))))))))))))))))))) Try.mixed (by kernel_rfl) (by kernel_rfl) (by repeat (first | exact retQ_noP | refine seqQ_noP ?_ | refine blockQ_noP ?_ | refine loopQ_noP ?_ | refine scopeQ_noP ?_ | (intro _ _ _ h; cases h.1))) ?_
              refine S_q (Ent.re [4,0,1] rfl) rfl (Q_move rfl) rfl rfl rfl ?_
              refine S_q (Ent.re [4,0,1] rfl) rfl (Q_pneA rfl rfl) rfl rfl rfl ?_
              refine S_q (Ent.re [4,0,1] rfl) rfl (Q_move rfl) rfl rfl rfl ?_
              refine S_q (Ent.re [4,0,1] rfl) rfl (Q_move rfl) rfl rfl rfl ?_
              refine S_q (Ent.re [4,0,1] rfl) rfl (Q_pnil rfl) rfl rfl rfl ?_
              refine S_q (Ent.re [4,0,1] rfl) rfl (Q_ldEAt 2 i 0 (v := str K[i].key) rfl rfl rfl rfl hlt (by decide) rfl) rfl rfl rfl ?_
              refine S_q (Ent.re [4,0,1] rfl) rfl (Q_move rfl) rfl rfl rfl ?_
              refine S_q (Ent.re [4,0,1] rfl) rfl (Q_pnil rfl) rfl rfl rfl ?_
              refine S_q (Ent.re [4,0,1] rfl) rfl (Q_ldE (τ := tKv) Al.length 0 (v := str xl.key) (fun w h => hlo w _ h) rfl rfl rfl hll (by decide) (by rw [hlg]; rfl)) rfl rfl rfl ?_
              refine S_q (Ent.re [4,0,1] rfl) rfl ((Q_sleq rfl rfl).as (v' := .bool false) (congrArg Value.bool (kl_nle (hloK _ hmem)))) rfl rfl rfl ?_
              refine S_q (Ent.re [4,0,1] rfl) rfl (Q_pickT rfl rfl) rfl rfl rfl ?_
              refine S_q (Ent.re [4,0,1] rfl) rfl (Q_move rfl) rfl rfl rfl ?_
              refine S_q (Ent.re [4,0,1] rfl) rfl (Q_move rfl) rfl rfl rfl ?_
              refine S_q (Ent.re [4,0,1] rfl) rfl ((Q_pneq (a := none) rfl rfl).as (v' := .bool false) rfl) rfl rfl rfl ?_
              refine S_q (Ent.re [4,0,1] rfl) rfl (Q_move rfl) rfl rfl rfl ?_
              refine S_n (Ent.re [4,0,1] rfl) rfl rfl rfl rfl ?_
              refine S_n (Ent.re [4,0,1] rfl) rfl rfl rfl rfl ?_
              refine S_n (Ent.re [4,0,1] rfl) rfl rfl rfl rfl ?_
              refine S_n (Ent.re [4,0,1] rfl) rfl rfl rfl rfl ?_
              refine S_n (Ent.re [4,0,1] rfl) rfl rfl rfl rfl ?_
              refine S_n (Ent.re [4,0,1] rfl) rfl rfl rfl rfl ?_
              refine S_n (Ent.re [4,0,1] rfl) rfl rfl rfl rfl ?_
              refine S_q (Ent.re [4,0,1] rfl) rfl (Q_pickF rfl rfl) rfl rfl rfl ?_
              refine S_q (Ent.re [4,0,1] rfl) rfl (Q_pickF rfl rfl) rfl rfl rfl ?_
              refine S_q (Ent.re [4,0,1] rfl) rfl (Q_move rfl) rfl rfl rfl ?_
              refine S_q (Ent.re [4,0,1] rfl) rfl (Q_move rfl) rfl rfl rfl ?_
              refine S_q (Ent.re [4,0,1] rfl) rfl ((Q_gtr rfl rfl).as (v' := .bool false) (congrArg Value.bool (decide_eq_false (by omega)))) rfl rfl rfl ?_
              refine S_q (Ent.re [4,0,1] rfl) rfl (Q_move rfl) rfl rfl rfl ?_
              refine S_n (Ent.re [4,0,1] rfl) rfl rfl rfl rfl ?_
              refine S_n (Ent.re [4,0,1] rfl) rfl rfl rfl rfl ?_
              refine S_n (Ent.re [4,0,1] rfl) rfl rfl rfl rfl ?_
              refine S_n (Ent.re [4,0,1] rfl) rfl rfl rfl rfl ?_
              refine S_n (Ent.re [4,0,1] rfl) rfl rfl rfl rfl ?_
              refine S_n (Ent.re [4,0,1] rfl) rfl rfl rfl rfl ?_
              refine S_n (Ent.re [4,0,1] rfl) rfl rfl rfl rfl ?_
              refine S_n (Ent.re [4,0,1] rfl) rfl rfl rfl rfl ?_
              refine S_n (Ent.re [4,0,1] rfl) rfl rfl rfl rfl ?_
              refine S_n (Ent.re [4,0,1] rfl) rfl rfl rfl rfl ?_
              refine S_n (Ent.re [4,0,1] rfl) rfl rfl rfl rfl ?_
              refine S_n (Ent.re [4,0,1] rfl) rfl rfl rfl rfl ?_
              refine S_n (Ent.re [4,0,1] rfl) rfl rfl rfl rfl ?_
              refine S_q (Ent.re [4,0,1] rfl) rfl (Q_pickF rfl rfl) rfl rfl rfl ?_
              refine S_q (Ent.re [4,0,1] rfl) rfl (Q_pickF rfl rfl) rfl rfl rfl ?_
              refine S_nil ?_
              exact ⟨rfl, ⟨rfl, rfl, rfl, rfl, rfl, rfl, trivial⟩, Ent.refl _⟩
            | some qh =>
              obtain ⟨Sh, Ah, xh, Bh⟩ := qh
              have hhl : Ah.length < (Ah ++ xh :: Bh).length := by simp
              have hhg : (Ah ++ xh :: Bh)[Ah.length] = xh := get_mid rfl hhl
              refine J_drawH [4,0,1] [0, 1, 2, 3, 4, 5, 6, 7, 8, 9, 10, 11, 12, 13, 14, 15, 16, 17, 18, 19, 20, 21, 22, 23, 24, 25, 26, 27, 28, 29, 30, 31, 32, 33, 34, 35, 36, 37, 38, 39, 40, 41, 42] (.quiet 0 (.quiet 1 (.quiet 2 (.quiet 3 (.quiet 4 (.quiet 5 (.quiet 6 (.quiet 7 (.quiet 8 (.quiet 9 (.quiet 10 (.quiet 11 (.quiet 12 (.quiet 13 (.quiet 14 (.quiet 15 (.quiet 16 (.quiet 17 (.quiet 18 (.quiet 19 (.quiet 20 (.quiet 21 (.quiet 22 (.quiet 23 (.quiet 24 (.quiet 25 (.quiet 26 (.quiet 27 (.quiet 28 (.quiet 29 (.quiet 30 (.quiet 31 (.quiet 32 (.quiet 33 (.quiet 34 (.quiet 35 (.quiet 36 (.quiet 37 (.quiet 38 (.quiet 39 (.quiet 40 (.quiet 41 (.quiet 42 .done))))))))))))))))))))))))))))))))))))))))))) Try.mixed (by kernel_rfl) (by kernel_rfl) (by repeat (first | exact retQ_noP | refine seqQ_noP ?_ | refine blockQ_noP ?_ | refine loopQ_noP ?_ | refine scopeQ_noP ?_ | (intro _ _ _ h; cases h.1))) ?_
              refine S_q (Ent.re [4,0,1] rfl) rfl (Q_move rfl) rfl rfl rfl ?_
              refine S_q (Ent.re [4,0,1] rfl) rfl (Q_pneA rfl rfl) rfl rfl rfl ?_
              refine S_q (Ent.re [4,0,1] rfl) rfl (Q_move rfl) rfl rfl rfl ?_
              refine S_q (Ent.re [4,0,1] rfl) rfl (Q_move rfl) rfl rfl rfl ?_
              refine S_q (Ent.re [4,0,1] rfl) rfl (Q_pnil rfl) rfl rfl rfl ?_
              refine S_q (Ent.re [4,0,1] rfl) rfl (Q_ldEAt 2 i 0 (v := str K[i].key) rfl rfl rfl rfl hlt (by decide) rfl) rfl rfl rfl ?_
              refine S_q (Ent.re [4,0,1] rfl) rfl (Q_move rfl) rfl rfl rfl ?_
              refine S_q (Ent.re [4,0,1] rfl) rfl (Q_pnil rfl) rfl rfl rfl ?_
              refine S_q (Ent.re [4,0,1] rfl) rfl (Q_ldE (τ := tKv) Al.length 0 (v := str xl.key) (fun w h => hlo w _ h) rfl rfl rfl hll (by decide) (by rw [hlg]; rfl)) rfl rfl rfl ?_
              refine S_q (Ent.re [4,0,1] rfl) rfl ((Q_sleq rfl rfl).as (v' := .bool false) (congrArg Value.bool (kl_nle (hloK _ hmem)))) rfl rfl rfl ?_
              refine S_q (Ent.re [4,0,1] rfl) rfl (Q_pickT rfl rfl) rfl rfl rfl ?_
              refine S_q (Ent.re [4,0,1] rfl) rfl (Q_move rfl) rfl rfl rfl ?_
              refine S_q (Ent.re [4,0,1] rfl) rfl (Q_move rfl) rfl rfl rfl ?_
              refine S_q (Ent.re [4,0,1] rfl) rfl (Q_pneA rfl rfl) rfl rfl rfl ?_
              refine S_q (Ent.re [4,0,1] rfl) rfl (Q_move rfl) rfl rfl rfl ?_
              refine S_q (Ent.re [4,0,1] rfl) rfl (Q_move rfl) rfl rfl rfl ?_
              refine S_q (Ent.re [4,0,1] rfl) rfl (Q_pnil rfl) rfl rfl rfl ?_
              refine S_q (Ent.re [4,0,1] rfl) rfl (Q_ldEAt 2 i 0 (v := str K[i].key) rfl rfl rfl rfl hlt (by decide) rfl) rfl rfl rfl ?_
              refine S_q (Ent.re [4,0,1] rfl) rfl (Q_move rfl) rfl rfl rfl ?_
              refine S_q (Ent.re [4,0,1] rfl) rfl (Q_pnil rfl) rfl rfl rfl ?_
              refine S_q (Ent.re [4,0,1] rfl) rfl (Q_ldE (τ := tKv) Ah.length 0 (v := str xh.key) (fun w h => hhi w _ h) rfl rfl rfl hhl (by decide) (by rw [hhg]; rfl)) rfl rfl rfl ?_
              refine S_q (Ent.re [4,0,1] rfl) rfl ((Q_sgeq rfl rfl).as (v' := .bool false) (congrArg Value.bool (kl_nge (hhiK _ hmem)))) rfl rfl rfl ?_
              refine S_q (Ent.re [4,0,1] rfl) rfl (Q_pickT rfl rfl) rfl rfl rfl ?_
              refine S_q (Ent.re [4,0,1] rfl) rfl (Q_pickF rfl rfl) rfl rfl rfl ?_
              refine S_q (Ent.re [4,0,1] rfl) rfl (Q_move rfl) rfl rfl rfl ?_
              refine S_q (Ent.re [4,0,1] rfl) rfl (Q_move rfl) rfl rfl rfl ?_
              refine S_q (Ent.re [4,0,1] rfl) rfl ((Q_gtr rfl rfl).as (v' := .bool false) (congrArg Value.bool (decide_eq_false (by omega)))) rfl rfl rfl ?_
              refine S_q (Ent.re [4,0,1] rfl) rfl (Q_move rfl) rfl rfl rfl ?_
              refine S_n (Ent.re [4,0,1] rfl) rfl rfl rfl rfl ?_
              refine S_n (Ent.re [4,0,1] rfl) rfl rfl rfl rfl ?_
              refine S_n (Ent.re [4,0,1] rfl) rfl rfl rfl rfl ?_
              refine S_n (Ent.re [4,0,1] rfl) rfl rfl rfl rfl ?_
              refine S_n (Ent.re [4,0,1] rfl) rfl rfl rfl rfl ?_
              refine S_n (Ent.re [4,0,1] rfl) rfl rfl rfl rfl ?_
              refine S_n (Ent.re [4,0,1] rfl) rfl rfl rfl rfl ?_
              refine S_n (Ent.re [4,0,1] rfl) rfl rfl rfl rfl ?_
              refine S_n (Ent.re [4,0,1] rfl) rfl rfl rfl rfl ?_
              refine S_n (Ent.re [4,0,1] rfl) rfl rfl rfl rfl ?_
              refine S_n (Ent.re [4,0,1] rfl) rfl rfl rfl rfl ?_
              refine S_n (Ent.re [4,0,1] rfl) rfl rfl rfl rfl ?_
              refine S_n (Ent.re [4,0,1] rfl) rfl rfl rfl rfl ?_
              refine S_q (Ent.re [4,0,1] rfl) rfl (Q_pickF rfl rfl) rfl rfl rfl ?_
              refine S_q (Ent.re [4,0,1] rfl) rfl (Q_pickF rfl rfl) rfl rfl rfl ?_
              refine S_nil ?_
              exact ⟨rfl, ⟨rfl, rfl, rfl, rfl, rfl, rfl, trivial⟩, Ent.refl _⟩
        · have hlt1 : i - 1 < K.length := by omega
          have hkk : kl K[i - 1].key K[i].key = true := List.pairwise_iff_getElem.1 hk (i - 1) i hlt1 hlt (by omega)
          cases lo with
          | none =>
            cases hi with
            | none =>
              refine J_drawH [4,0,1] [0, 1, 2, 3, 4, 5, 6, 7, 8, 9, 10, 11, 12, 13, 14, 15, 16, 17, 18, 19, 20, 21, 22, 23, 24, 25, 26, 27, 28, 29, 30, 31, 32, 33, 34, 35, 36, 37, 38, 39, 40, 41, 42] (.quiet 0 (.quiet 1 (.quiet 2 (.quiet 3 (.quiet 4 (.quiet 5 (.quiet 6 (.quiet 7 (.quiet 8 (.quiet 9 (.quiet 10 (.quiet 11 (.quiet 12 (.quiet 13 (.quiet 14 (.quiet 15 (.quiet 16 (.quiet 17 (.quiet 18 (.quiet 19 (.quiet 20 (.quiet 21 (.quiet 22 (.quiet 23 (.quiet 24 (.quiet 25 (.quiet 26 (.quiet 27 (.quiet 28 (.quiet 29 (.quiet 30 (.quiet 31 (.quiet 32 (.quiet 33 (.quiet 34 (.quiet 35 (.quiet 36 (.quiet 37 (.quiet 38 (.quiet 39 (.quiet 40 (.quiet 41 (.quiet 42 .done))))))))))))))))))))))))))))))))))))))))))) Try.mixed (by kernel_rfl) (by kernel_rfl) (by repeat (first | exact retQ_noP | refine seqQ_noP ?_ | refine blockQ_noP ?_ | refine loopQ_noP ?_ | refine scopeQ_noP ?_ | (intro _ _ _ h; cases h.1))) ?_
              refine S_q (Ent.re [4,0,1] rfl) rfl (Q_move rfl) rfl rfl rfl ?_
              refine S_q (Ent.re [4,0,1] rfl) rfl ((Q_pneq (a := none) rfl rfl).as (v' := .bool false) rfl) rfl rfl rfl ?_
              refine S_q (Ent.re [4,0,1] rfl) rfl (Q_move rfl) rfl rfl rfl ?_
              refine S_n (Ent.re [4,0,1] rfl) rfl rfl rfl rfl ?_
              refine S_n (Ent.re [4,0,1] rfl) rfl rfl rfl rfl ?_
              refine S_n (Ent.re [4,0,1] rfl) rfl rfl rfl rfl ?_
              refine S_n (Ent.re [4,0,1] rfl) rfl rfl rfl rfl ?_
              refine S_n (Ent.re [4,0,1] rfl) rfl rfl rfl rfl ?_
              refine S_n (Ent.re [4,0,1] rfl) rfl rfl rfl rfl ?_
              refine S_n (Ent.re [4,0,1] rfl) rfl rfl rfl rfl ?_
              refine S_q (Ent.re [4,0,1] rfl) rfl (Q_pickF rfl rfl) rfl rfl rfl ?_
              refine S_q (Ent.re [4,0,1] rfl) rfl (Q_move rfl) rfl rfl rfl ?_
              refine S_q (Ent.re [4,0,1] rfl) rfl (Q_move rfl) rfl rfl rfl ?_
              refine S_q (Ent.re [4,0,1] rfl) rfl ((Q_pneq (a := none) rfl rfl).as (v' := .bool false) rfl) rfl rfl rfl ?_
              refine S_q (Ent.re [4,0,1] rfl) rfl (Q_move rfl) rfl rfl rfl ?_
              refine S_n (Ent.re [4,0,1] rfl) rfl rfl rfl rfl ?_
              refine S_n (Ent.re [4,0,1] rfl) rfl rfl rfl rfl ?_
              refine S_n (Ent.re [4,0,1] rfl) rfl rfl rfl rfl ?_
              refine S_n (Ent.re [4,0,1] rfl) rfl rfl rfl rfl ?_
              refine S_n (Ent.re [4,0,1] rfl) rfl rfl rfl rfl ?_
              refine S_n (Ent.re [4,0,1] rfl) rfl rfl rfl rfl ?_
              refine S_n (Ent.re [4,0,1] rfl) rfl rfl rfl rfl ?_
              refine S_q (Ent.re [4,0,1] rfl) rfl (Q_pickF rfl rfl) rfl rfl rfl ?_
              refine S_q (Ent.re [4,0,1] rfl) rfl (Q_pickF rfl rfl) rfl rfl rfl ?_
              refine S_q (Ent.re [4,0,1] rfl) rfl (Q_move rfl) rfl rfl rfl ?_
              refine S_q (Ent.re [4,0,1] rfl) rfl (Q_move rfl) rfl rfl rfl ?_
              refine S_q (Ent.re [4,0,1] rfl) rfl ((Q_gtr rfl rfl).as (v' := .bool true) (congrArg Value.bool (decide_eq_true (by omega)))) rfl rfl rfl ?_
              refine S_q (Ent.re [4,0,1] rfl) rfl (Q_move rfl) rfl rfl rfl ?_
              refine S_q (Ent.re [4,0,1] rfl) rfl (Q_move rfl) rfl rfl rfl ?_
              refine S_q (Ent.re [4,0,1] rfl) rfl (Q_pnil rfl) rfl rfl rfl ?_
              refine S_q (Ent.re [4,0,1] rfl) rfl (Q_ldEAt 2 i 0 (v := str K[i].key) rfl rfl rfl rfl hlt (by decide) rfl) rfl rfl rfl ?_
              refine S_q (Ent.re [4,0,1] rfl) rfl (Q_move rfl) rfl rfl rfl ?_
              refine S_q (Ent.re [4,0,1] rfl) rfl (Q_nilCheck rfl) rfl rfl rfl ?_
              refine S_q (Ent.re [4,0,1] rfl) rfl (Q_fa0 rfl) rfl rfl rfl ?_
              refine S_q (Ent.re [4,0,1] rfl) rfl (Q_ld 1 rfl rfl rfl rfl) rfl rfl rfl ?_
              refine S_q (Ent.re [4,0,1] rfl) rfl (Q_move rfl) rfl rfl rfl ?_
              refine S_q (Ent.re [4,0,1] rfl) rfl (Q_sub (r := ((i - 1 : Nat) : Int)) rfl rfl (by rw [show (i : Int) - 1 = ((i - 1 : Nat) : Int) by omega]; exact IntWalk.i64_in _ (by omega))) rfl rfl rfl ?_
              refine S_q (Ent.re [4,0,1] rfl) rfl (Q_ixAt 2 (i - 1) rfl rfl rfl rfl hlt1 rfl) rfl rfl rfl ?_
              refine S_q (Ent.re [4,0,1] rfl) rfl (Q_pfa rfl) rfl rfl rfl ?_
              refine S_q (Ent.re [4,0,1] rfl) rfl (Q_ldEAt 2 (i - 1) 0 (v := str K[i - 1].key) rfl rfl rfl rfl hlt1 (by decide) rfl) rfl rfl rfl ?_
              refine S_q (Ent.re [4,0,1] rfl) rfl ((Q_sleq rfl rfl).as (v' := .bool false) (congrArg Value.bool (kl_nle hkk))) rfl rfl rfl ?_
              refine S_q (Ent.re [4,0,1] rfl) rfl (Q_pickT rfl rfl) rfl rfl rfl ?_
              refine S_q (Ent.re [4,0,1] rfl) rfl (Q_pickF rfl rfl) rfl rfl rfl ?_
              refine S_nil ?_
              exact ⟨rfl, ⟨rfl, rfl, rfl, rfl, rfl, rfl, trivial⟩, Ent.refl _⟩
            | some qh =>
              obtain ⟨Sh, Ah, xh, Bh⟩ := qh
              have hhl : Ah.length < (Ah ++ xh :: Bh).length := by simp
              have hhg : (Ah ++ xh :: Bh)[Ah.length] = xh := get_mid rfl hhl
              refine J_drawH [4,0,1] [0, 1, 2, 3, 4, 5, 6, 7, 8, 9, 10, 11, 12, 13, 14, 15, 16, 17, 18, 19, 20, 21, 22, 23, 24, 25, 26, 27, 28, 29, 30, 31, 32, 33, 34, 35, 36, 37, 38, 39, 40, 41, 42] (.quiet 0 (.quiet 1 (.quiet 2 (.quiet 3 (.quiet 4 (.quiet 5 (.quiet 6 (.quiet 7 (.quiet 8 (.quiet 9 (.quiet 10 (.quiet 11 (.quiet 12 (.quiet 13 (.quiet 14 (.quiet 15 (.quiet 16 (.quiet 17 (.quiet 18 (.quiet 19 (.quiet 20 (.quiet 21 (.quiet 22 (.quiet 23 (.quiet 24 (.quiet 25 (.quiet 26 (.quiet 27 (.quiet 28 (.quiet 29 (.quiet 30 (.quiet 31 (.quiet 32 (.quiet 33 (.quiet 34 (.quiet 35 (.quiet 36 (.quiet 37 (.quiet 38 (.quiet 39 (.quiet 40 (.quiet 41 (.quiet 42 .done))))))))))))))))))))))))))))))))))))))))))) Try.mixed (by kernel_rfl) (by kernel_rfl) (by repeat (first | exact retQ_noP | refine seqQ_noP ?_ | refine blockQ_noP ?_ | refine loopQ_noP ?_ | refine scopeQ_noP ?_ | (intro _ _ _ h; cases h.1))) ?_
              refine S_q (Ent.re [4,0,1] rfl) rfl (Q_move rfl) rfl rfl rfl ?_
              refine S_q (Ent.re [4,0,1] rfl) rfl ((Q_pneq (a := none) rfl rfl).as (v' := .bool false) rfl) rfl rfl rfl ?_
              refine S_q (Ent.re [4,0,1] rfl) rfl (Q_move rfl) rfl rfl rfl ?_
              refine S_n (Ent.re [4,0,1] rfl) rfl rfl rfl rfl ?_
              refine S_n (Ent.re [4,0,1] rfl) rfl rfl rfl rfl ?_
              refine S_n (Ent.re [4,0,1] rfl) rfl rfl rfl rfl ?_
              refine S_n (Ent.re [4,0,1] rfl) rfl rfl rfl rfl ?_
              refine S_n (Ent.re [4,0,1] rfl) rfl rfl rfl rfl ?_
              refine S_n (Ent.re [4,0,1] rfl) rfl rfl rfl rfl ?_
              refine S_n (Ent.re [4,0,1] rfl) rfl rfl rfl rfl ?_
              refine S_q (Ent.re [4,0,1] rfl) rfl (Q_pickF rfl rfl) rfl rfl rfl ?_
              refine S_q (Ent.re [4,0,1] rfl) rfl (Q_move rfl) rfl rfl rfl ?_
              refine S_q (Ent.re [4,0,1] rfl) rfl (Q_move rfl) rfl rfl rfl ?_
              refine S_q (Ent.re [4,0,1] rfl) rfl (Q_pneA rfl rfl) rfl rfl rfl ?_
              refine S_q (Ent.re [4,0,1] rfl) rfl (Q_move rfl) rfl rfl rfl ?_
              refine S_q (Ent.re [4,0,1] rfl) rfl (Q_move rfl) rfl rfl rfl ?_
              refine S_q (Ent.re [4,0,1] rfl) rfl (Q_pnil rfl) rfl rfl rfl ?_
              refine S_q (Ent.re [4,0,1] rfl) rfl (Q_ldEAt 2 i 0 (v := str K[i].key) rfl rfl rfl rfl hlt (by decide) rfl) rfl rfl rfl ?_
              refine S_q (Ent.re [4,0,1] rfl) rfl (Q_move rfl) rfl rfl rfl ?_
              refine S_q (Ent.re [4,0,1] rfl) rfl (Q_pnil rfl) rfl rfl rfl ?_
              refine S_q (Ent.re [4,0,1] rfl) rfl (Q_ldE (τ := tKv) Ah.length 0 (v := str xh.key) (fun w h => hhi w _ h) rfl rfl rfl hhl (by decide) (by rw [hhg]; rfl)) rfl rfl rfl ?_
              refine S_q (Ent.re [4,0,1] rfl) rfl ((Q_sgeq rfl rfl).as (v' := .bool false) (congrArg Value.bool (kl_nge (hhiK _ hmem)))) rfl rfl rfl ?_
              refine S_q (Ent.re [4,0,1] rfl) rfl (Q_pickT rfl rfl) rfl rfl rfl ?_
              refine S_q (Ent.re [4,0,1] rfl) rfl (Q_pickF rfl rfl) rfl rfl rfl ?_
              refine S_q (Ent.re [4,0,1] rfl) rfl (Q_move rfl) rfl rfl rfl ?_
              refine S_q (Ent.re [4,0,1] rfl) rfl (Q_move rfl) rfl rfl rfl ?_
              refine S_q (Ent.re [4,0,1] rfl) rfl ((Q_gtr rfl rfl).as (v' := .bool true) (congrArg Value.bool (decide_eq_true (by omega)))) rfl rfl rfl ?_
              refine S_q (Ent.re [4,0,1] rfl) rfl (Q_move rfl) rfl rfl rfl ?_
              refine S_q (Ent.re [4,0,1] rfl) rfl (Q_move rfl) rfl rfl rfl ?_
              refine S_q (Ent.re [4,0,1] rfl) rfl (Q_pnil rfl) rfl rfl rfl ?_
              refine S_q (Ent.re [4,0,1] rfl) rfl (Q_ldEAt 2 i 0 (v := str K[i].key) rfl rfl rfl rfl hlt (by decide) rfl) rfl rfl rfl ?_
              refine S_q (Ent.re [4,0,1] rfl) rfl (Q_move rfl) rfl rfl rfl ?_
              refine S_q (Ent.re [4,0,1] rfl) rfl (Q_nilCheck rfl) rfl rfl rfl ?_
              refine S_q (Ent.re [4,0,1] rfl) rfl (Q_fa0 rfl) rfl rfl rfl ?_
              refine S_q (Ent.re [4,0,1] rfl) rfl (Q_ld 1 rfl rfl rfl rfl) rfl rfl rfl ?_
              refine S_q (Ent.re [4,0,1] rfl) rfl (Q_move rfl) rfl rfl rfl ?_
              refine S_q (Ent.re [4,0,1] rfl) rfl (Q_sub (r := ((i - 1 : Nat) : Int)) rfl rfl (by rw [show (i : Int) - 1 = ((i - 1 : Nat) : Int) by omega]; exact IntWalk.i64_in _ (by omega))) rfl rfl rfl ?_
              refine S_q (Ent.re [4,0,1] rfl) rfl (Q_ixAt 2 (i - 1) rfl rfl rfl rfl hlt1 rfl) rfl rfl rfl ?_
              refine S_q (Ent.re [4,0,1] rfl) rfl (Q_pfa rfl) rfl rfl rfl ?_
              refine S_q (Ent.re [4,0,1] rfl) rfl (Q_ldEAt 2 (i - 1) 0 (v := str K[i - 1].key) rfl rfl rfl rfl hlt1 (by decide) rfl) rfl rfl rfl ?_
              refine S_q (Ent.re [4,0,1] rfl) rfl ((Q_sleq rfl rfl).as (v' := .bool false) (congrArg Value.bool (kl_nle hkk))) rfl rfl rfl ?_
              refine S_q (Ent.re [4,0,1] rfl) rfl (Q_pickT rfl rfl) rfl rfl rfl ?_
              refine S_q (Ent.re [4,0,1] rfl) rfl (Q_pickF rfl rfl) rfl rfl rfl ?_
              refine S_nil ?_
              exact ⟨rfl, ⟨rfl, rfl, rfl, rfl, rfl, rfl, trivial⟩, Ent.refl _⟩
          | some ql =>
            obtain ⟨Sl, Al, xl, Bl⟩ := ql
            have hll : Al.length < (Al ++ xl :: Bl).length := by simp
            have hlg : (Al ++ xl :: Bl)[Al.length] = xl := get_mid rfl hll
            cases hi with
            | none =>
              refine J_drawH [4,0,1] [0, 1, 2, 3, 4, 5, 6, 7, 8, 9, 10, 11, 12, 13, 14, 15, 16, 17, 18, 19, 20, 21, 22, 23, 24, 25, 26, 27, 28, 29, 30, 31, 32, 33, 34, 35, 36, 37, 38, 39, 40, 41, 42] (.quiet 0 (.quiet 1 (.quiet 2 (.quiet 3 (.quiet 4 (.quiet 5 (.quiet 6 (.quiet 7 (.quiet 8 (.quiet 9 (.quiet 10 (.quiet 11 (.quiet 12 (.quiet 13 (.quiet 14 (.quiet 15 (.quiet 16 (.quiet 17 (.quiet 18 (.quiet 19 (.quiet 20 (.quiet 21 (.quiet 22 (.quiet 23 (.quiet 24 (.quiet 25 (.quiet 26 (.quiet 27 (.quiet 28 (.quiet 29 (.quiet 30 (.quiet 31 (.quiet 32 (.quiet 33 (.quiet 34 (.quiet 35 (.quiet 36 (.quiet 37 (.quiet 38 (.quiet 39 (.quiet 40 (.quiet 41 (.quiet 42 .done))))))))))))))))))))))))))))))))))))))))))) Try.mixed (by kernel_rfl) (by kernel_rfl) (by repeat (first | exact retQ_noP | refine seqQ_noP ?_ | refine blockQ_noP ?_ | refine loopQ_noP ?_ | refine scopeQ_noP ?_ | (intro _ _ _ h; cases h.1))) ?_
              refine S_q (Ent.re [4,0,1] rfl) rfl (Q_move rfl) rfl rfl rfl ?_
              refine S_q (Ent.re [4,0,1] rfl) rfl (Q_pneA rfl rfl) rfl rfl rfl ?_
              refine S_q (Ent.re [4,0,1] rfl) rfl (Q_move rfl) rfl rfl rfl ?_
              refine S_q (Ent.re [4,0,1] rfl) rfl (Q_move rfl) rfl rfl rfl ?_
              refine S_q (Ent.re [4,0,1] rfl) rfl (Q_pnil rfl) rfl rfl rfl ?_
              refine S_q (Ent.re [4,0,1] rfl) rfl (Q_ldEAt 2 i 0 (v := str K[i].key) rfl rfl rfl rfl hlt (by decide) rfl) rfl rfl rfl ?_
              refine S_q (Ent.re [4,0,1] rfl) rfl (Q_move rfl) rfl rfl rfl ?_
              refine S_q (Ent.re [4,0,1] rfl) rfl (Q_pnil rfl) rfl rfl rfl ?_
              refine S_q (Ent.re [4,0,1] rfl) rfl (Q_ldE (τ := tKv) Al.length 0 (v := str xl.key) (fun w h => hlo w _ h) rfl rfl rfl hll (by decide) (by rw [hlg]; rfl)) rfl rfl rfl ?_
              refine S_q (Ent.re [4,0,1] rfl) rfl ((Q_sleq rfl rfl).as (v' := .bool false) (congrArg Value.bool (kl_nle (hloK _ hmem)))) rfl rfl rfl ?_
              refine S_q (Ent.re [4,0,1] rfl) rfl (Q_pickT rfl rfl) rfl rfl rfl ?_
              refine S_q (Ent.re [4,0,1] rfl) rfl (Q_move rfl) rfl rfl rfl ?_
              refine S_q (Ent.re [4,0,1] rfl) rfl (Q_move rfl) rfl rfl rfl ?_
              refine S_q (Ent.re [4,0,1] rfl) rfl ((Q_pneq (a := none) rfl rfl).as (v' := .bool false) rfl) rfl rfl rfl ?_
              refine S_q (Ent.re [4,0,1] rfl) rfl (Q_move rfl) rfl rfl rfl ?_
              refine S_n (Ent.re [4,0,1] rfl) rfl rfl rfl rfl ?_
              refine S_n (Ent.re [4,0,1] rfl) rfl rfl rfl rfl ?_
              refine S_n (Ent.re [4,0,1] rfl) rfl rfl rfl rfl ?_
              refine S_n (Ent.re [4,0,1] rfl) rfl rfl rfl rfl ?_
              refine S_n (Ent.re [4,0,1] rfl) rfl rfl rfl rfl ?_
              refine S_n (Ent.re [4,0,1] rfl) rfl rfl rfl rfl ?_
              refine S_n (Ent.re [4,0,1] rfl) rfl rfl rfl rfl ?_
              refine S_q (Ent.re [4,0,1] rfl) rfl (Q_pickF rfl rfl) rfl rfl rfl ?_
              refine S_q (Ent.re [4,0,1] rfl) rfl (Q_pickF rfl rfl) rfl rfl rfl ?_
              refine S_q (Ent.re [4,0,1] rfl) rfl (Q_move rfl) rfl rfl rfl ?_
              refine S_q (Ent.re [4,0,1] rfl) rfl (Q_move rfl) rfl rfl rfl ?_
              refine S_q (Ent.re [4,0,1] rfl) rfl ((Q_gtr rfl rfl).as (v' := .bool true) (congrArg Value.bool (decide_eq_true (by omega)))) rfl rfl rfl ?_
              refine S_q (Ent.re [4,0,1] rfl) rfl (Q_move rfl) rfl rfl rfl ?_
              refine S_q (Ent.re [4,0,1] rfl) rfl (Q_move rfl) rfl rfl rfl ?_
              refine S_q (Ent.re [4,0,1] rfl) rfl (Q_pnil rfl) rfl rfl rfl ?_
              refine S_q (Ent.re [4,0,1] rfl) rfl (Q_ldEAt 2 i 0 (v := str K[i].key) rfl rfl rfl rfl hlt (by decide) rfl) rfl rfl rfl ?_
              refine S_q (Ent.re [4,0,1] rfl) rfl (Q_move rfl) rfl rfl rfl ?_
              refine S_q (Ent.re [4,0,1] rfl) rfl (Q_nilCheck rfl) rfl rfl rfl ?_
              refine S_q (Ent.re [4,0,1] rfl) rfl (Q_fa0 rfl) rfl rfl rfl ?_
              refine S_q (Ent.re [4,0,1] rfl) rfl (Q_ld 1 rfl rfl rfl rfl) rfl rfl rfl ?_
              refine S_q (Ent.re [4,0,1] rfl) rfl (Q_move rfl) rfl rfl rfl ?_
              refine S_q (Ent.re [4,0,1] rfl) rfl (Q_sub (r := ((i - 1 : Nat) : Int)) rfl rfl (by rw [show (i : Int) - 1 = ((i - 1 : Nat) : Int) by omega]; exact IntWalk.i64_in _ (by omega))) rfl rfl rfl ?_
              refine S_q (Ent.re [4,0,1] rfl) rfl (Q_ixAt 2 (i - 1) rfl rfl rfl rfl hlt1 rfl) rfl rfl rfl ?_
              refine S_q (Ent.re [4,0,1] rfl) rfl (Q_pfa rfl) rfl rfl rfl ?_
              refine S_q (Ent.re [4,0,1] rfl) rfl (Q_ldEAt 2 (i - 1) 0 (v := str K[i - 1].key) rfl rfl rfl rfl hlt1 (by decide) rfl) rfl rfl rfl ?_
              refine S_q (Ent.re [4,0,1] rfl) rfl ((Q_sleq rfl rfl).as (v' := .bool false) (congrArg Value.bool (kl_nle hkk))) rfl rfl rfl ?_
              refine S_q (Ent.re [4,0,1] rfl) rfl (Q_pickT rfl rfl) rfl rfl rfl ?_
              refine S_q (Ent.re [4,0,1] rfl) rfl (Q_pickF rfl rfl) rfl rfl rfl ?_
              refine S_nil ?_
              exact ⟨rfl, ⟨rfl, rfl, rfl, rfl, rfl, rfl, trivial⟩, Ent.refl _⟩
            | some qh =>
              obtain ⟨Sh, Ah, xh, Bh⟩ := qh
              have hhl : Ah.length < (Ah ++ xh :: Bh).length := by simp
              have hhg : (Ah ++ xh :: Bh)[Ah.length] = xh := get_mid rfl hhl
              refine J_drawH [4,0,1] [0, 1, 2, 3, 4, 5, 6, 7, 8, 9, 10, 11, 12, 13, 14, 15, 16, 17, 18, 19, 20, 21, 22, 23, 24, 25, 26, 27, 28, 29, 30, 31, 32, 33, 34, 35, 36, 37, 38, 39, 40, 41, 42] (.quiet 0 (.quiet 1 (.quiet 2 (.quiet 3 (.quiet 4 (.quiet 5 (.quiet 6 (.quiet 7 (.quiet 8 (.quiet 9 (.quiet 10 (.quiet 11 (.quiet 12 (.quiet 13 (.quiet 14 (.quiet 15 (.quiet 16 (.quiet 17 (.quiet 18 (.quiet 19 (.quiet 20 (.quiet 21 (.quiet 22 (.quiet 23 (.quiet 24 (.quiet 25 (.quiet 26 (.quiet 27 (.quiet 28 (.quiet 29 (.quiet 30 (.quiet 31 (.quiet 32 (.quiet 33 (.quiet 34 (.quiet 35 (.quiet 36 (.quiet 37 (.quiet 38 (.quiet 39 (.quiet 40 (.quiet 41 (.quiet 42 .done))))))))))))))))))))))))))))))))))))))))))) Try.mixed (by kernel_rfl) (by kernel_rfl) (by repeat (first | exact retQ_noP | refine seqQ_noP ?_ | refine blockQ_noP ?_ | refine loopQ_noP ?_ | refine scopeQ_noP ?_ | (intro _ _ _ h; cases h.1))) ?_
              refine S_q (Ent.re [4,0,1] rfl) rfl (Q_move rfl) rfl rfl rfl ?_
              refine S_q (Ent.re [4,0,1] rfl) rfl (Q_pneA rfl rfl) rfl rfl rfl ?_
              refine S_q (Ent.re [4,0,1] rfl) rfl (Q_move rfl) rfl rfl rfl ?_
              refine S_q (Ent.re [4,0,1] rfl) rfl (Q_move rfl) rfl rfl rfl ?_
              refine S_q (Ent.re [4,0,1] rfl) rfl (Q_pnil rfl) rfl rfl rfl ?_
              refine S_q (Ent.re [4,0,1] rfl) rfl (Q_ldEAt 2 i 0 (v := str K[i].key) rfl rfl rfl rfl hlt (by decide) rfl) rfl rfl rfl ?_
              refine S_q (Ent.re [4,0,1] rfl) rfl (Q_move rfl) rfl rfl rfl ?_
              refine S_q (Ent.re [4,0,1] rfl) rfl (Q_pnil rfl) rfl rfl rfl ?_
              refine S_q (Ent.re [4,0,1] rfl) rfl (Q_ldE (τ := tKv) Al.length 0 (v := str xl.key) (fun w h => hlo w _ h) rfl rfl rfl hll (by decide) (by rw [hlg]; rfl)) rfl rfl rfl ?_
              refine S_q (Ent.re [4,0,1] rfl) rfl ((Q_sleq rfl rfl).as (v' := .bool false) (congrArg Value.bool (kl_nle (hloK _ hmem)))) rfl rfl rfl ?_
              refine S_q (Ent.re [4,0,1] rfl) rfl (Q_pickT rfl rfl) rfl rfl rfl ?_
              refine S_q (Ent.re [4,0,1] rfl) rfl (Q_move rfl) rfl rfl rfl ?_
              refine S_q (Ent.re [4,0,1] rfl) rfl (Q_move rfl) rfl rfl rfl ?_
              refine S_q (Ent.re [4,0,1] rfl) rfl (Q_pneA rfl rfl) rfl rfl rfl ?_
              refine S_q (Ent.re [4,0,1] rfl) rfl (Q_move rfl) rfl rfl rfl ?_
              refine S_q (Ent.re [4,0,1] rfl) rfl (Q_move rfl) rfl rfl rfl ?_
              refine S_q (Ent.re [4,0,1] rfl) rfl (Q_pnil rfl) rfl rfl rfl ?_
              refine S_q (Ent.re [4,0,1] rfl) rfl (Q_ldEAt 2 i 0 (v := str K[i].key) rfl rfl rfl rfl hlt (by decide) rfl) rfl rfl rfl ?_
              refine S_q (Ent.re [4,0,1] rfl) rfl (Q_move rfl) rfl rfl rfl ?_
              refine S_q (Ent.re [4,0,1] rfl) rfl (Q_pnil rfl) rfl rfl rfl ?_
              refine S_q (Ent.re [4,0,1] rfl) rfl (Q_ldE (τ := tKv) Ah.length 0 (v := str xh.key) (fun w h => hhi w _ h) rfl rfl rfl hhl (by decide) (by rw [hhg]; rfl)) rfl rfl rfl ?_
              refine S_q (Ent.re [4,0,1] rfl) rfl ((Q_sgeq rfl rfl).as (v' := .bool false) (congrArg Value.bool (kl_nge (hhiK _ hmem)))) rfl rfl rfl ?_
              refine S_q (Ent.re [4,0,1] rfl) rfl (Q_pickT rfl rfl) rfl rfl rfl ?_
              refine S_q (Ent.re [4,0,1] rfl) rfl (Q_pickF rfl rfl) rfl rfl rfl ?_
              refine S_q (Ent.re [4,0,1] rfl) rfl (Q_move rfl) rfl rfl rfl ?_
              refine S_q (Ent.re [4,0,1] rfl) rfl (Q_move rfl) rfl rfl rfl ?_
              refine S_q (Ent.re [4,0,1] rfl) rfl ((Q_gtr rfl rfl).as (v' := .bool true) (congrArg Value.bool (decide_eq_true (by omega)))) rfl rfl rfl ?_
              refine S_q (Ent.re [4,0,1] rfl) rfl (Q_move rfl) rfl rfl rfl ?_
              refine S_q (Ent.re [4,0,1] rfl) rfl (Q_move rfl) rfl rfl rfl ?_
              refine S_q (Ent.re [4,0,1] rfl) rfl (Q_pnil rfl) rfl rfl rfl ?_
              refine S_q (Ent.re [4,0,1] rfl) rfl (Q_ldEAt 2 i 0 (v := str K[i].key) rfl rfl rfl rfl hlt (by decide) rfl) rfl rfl rfl ?_
              refine S_q (Ent.re [4,0,1] rfl) rfl (Q_move rfl) rfl rfl rfl ?_
              refine S_q (Ent.re [4,0,1] rfl) rfl (Q_nilCheck rfl) rfl rfl rfl ?_
              refine S_q (Ent.re [4,0,1] rfl) rfl (Q_fa0 rfl) rfl rfl rfl ?_
              refine S_q (Ent.re [4,0,1] rfl) rfl (Q_ld 1 rfl rfl rfl rfl) rfl rfl rfl ?_
              refine S_q (Ent.re [4,0,1] rfl) rfl (Q_move rfl) rfl rfl rfl ?_
              refine S_q (Ent.re [4,0,1] rfl) rfl (Q_sub (r := ((i - 1 : Nat) : Int)) rfl rfl (by rw [show (i : Int) - 1 = ((i - 1 : Nat) : Int) by omega]; exact IntWalk.i64_in _ (by omega))) rfl rfl rfl ?_
              refine S_q (Ent.re [4,0,1] rfl) rfl (Q_ixAt 2 (i - 1) rfl rfl rfl rfl hlt1 rfl) rfl rfl rfl ?_
              refine S_q (Ent.re [4,0,1] rfl) rfl (Q_pfa rfl) rfl rfl rfl ?_
              refine S_q (Ent.re [4,0,1] rfl) rfl (Q_ldEAt 2 (i - 1) 0 (v := str K[i - 1].key) rfl rfl rfl rfl hlt1 (by decide) rfl) rfl rfl rfl ?_
              refine S_q (Ent.re [4,0,1] rfl) rfl ((Q_sleq rfl rfl).as (v' := .bool false) (congrArg Value.bool (kl_nle hkk))) rfl rfl rfl ?_
              refine S_q (Ent.re [4,0,1] rfl) rfl (Q_pickT rfl rfl) rfl rfl rfl ?_
              refine S_q (Ent.re [4,0,1] rfl) rfl (Q_pickF rfl rfl) rfl rfl rfl ?_
              refine S_nil ?_
              exact ⟨rfl, ⟨rfl, rfl, rfl, rfl, rfl, rfl, trivial⟩, Ent.refl _⟩
      rintro ρ2 L2 ⟨hsub, hent⟩
      refine J.sub hsub ?_
      refine J.ent hent ?_
      clear hsub hent
      refine J_condF rfl ?_
      refine J_skip ?_
      refine blockQ_normal ?_
      refine seqQ_normal ?_
      refine J_region ?_
      refine L_q (Q_add rfl rfl (by first | exact IntWalk.i64_in _ (by omega) | exact IntWalk.u8_in _ (by omega) | exact IntWalk.u32_in _ (by omega) | exact IntWalk.u64_in _ (by omega) | rfl)) rfl rfl rfl ?_
      refine L_q (Q_move rfl) rfl rfl rfl ?_
      refine JL_nil ?_
      exact loopQ_normal (i + 1) hlt (by show K.length - (i + 1) < K.length - i; omega) ⟨rfl, rfl, rfl, rfl, rfl, trivial⟩ (Ent.refl _)
    · refine J_exit ?_
      refine seqQ_exit ?_
      refine loopQ_exit ?_
      refine blockQ_hit ?_
      exact ⟨rfl, ⟨rfl, rfl, rfl, trivial⟩, Ent.refl _⟩
  rintro _ ρ3 L3 ⟨rfl, hsub, hent⟩
  refine seqQ_normal ?_
  refine J.sub hsub ?_
  refine J.ent hent ?_
  clear hsub hent
  refine J_seq ?_
  refine J_region ?_
  refine L_q (Q_assign rfl) rfl rfl rfl ?_
  refine JL_nil ?_
  refine seqQ_normal ?_
  refine J_seq ?_
  refine J_seq ?_
  refine J_region ?_
  refine L_q (Q_move rfl) rfl rfl rfl ?_
  refine L_q (Q_nilCheck rfl) rfl rfl rfl ?_
  refine L_q (Q_fa0 rfl) rfl rfl rfl ?_
  refine L_q (Q_ld 0 rfl rfl rfl rfl) rfl rfl rfl ?_
  refine L_q (Q_lenAt 2 rfl rfl) rfl rfl rfl ?_
  refine L_q (Q_move rfl) rfl rfl rfl ?_
  refine JL_nil ?_
  refine seqQ_normal ?_
  refine J_block ?_
  rw [hpl]
  refine J_loop (fun j : Nat => j ≤ es.length) (fun j => [(0, .pointer (some ⟨p, 0, none⟩)), (2, limV lo), (3, limV hi), (12, .int .i64 (dep d j)), (118, R.v), (119, .int .i64 (es.length : Int)), (120, .int .i64 (j : Int))]) (fun _ => [ndC p S R, slc tKv true S K, slc tNd true R (pL es), stars (es.map (ndE d)), C, F]) (fun j => es.length - j) 0 (Nat.zero_le _) ⟨rfl, rfl, rfl, rfl, rfl, rfl, rfl, trivial⟩ (Ent.refl _) ?_
  intro j hj
  refine J_seq ?_
  refine J_region ?_
  refine L_q (Q_lss rfl rfl) rfl rfl rfl ?_
  refine JL_nil ?_
  refine seqQ_normal ?_
  refine J_seq ?_
  refine J_condD rfl (fun h => ?_) (fun h => ?_)
  · have hlt : j < es.length := by omega
    have hel : es.length = K.length + 1 := by
      rcases hes with h0 | h0
      · rw [h0] at hlt; exact absurd hlt (Nat.not_lt_zero _)
      · exact h0
    obtain ⟨A, e, B, hE, hA⟩ := split_at hlt
    have hPl : j < (pL es).length := by omega
    have hPg : (pL es)[j] = some e.1 := by
      have : ∀ (es' : List (Nat × T d)) (h : j < (pL es').length), es' = A ++ e :: B → (pL es')[j] = some e.1 := by
        rintro _ h rfl
        subst hA
        exact mid_get _ A B e h
      exact this es hPl hE
    obtain ⟨K1, K2, hK, hK1⟩ : ∃ K1 K2, K = K1 ++ K2 ∧ K1.length = j := ⟨K.take j, K.drop j, (List.take_append_drop ..).symm, by simp; omega⟩
    have hKl : K.length = K1.length + K2.length := by rw [hK]; simp
    refine J_skip ?_
    refine seqQ_normal ?_
    refine J_seq ?_
    refine J_block ?_
    refine J_seq ?_
    refine J_region ?_
    refine L_q (Q_move rfl) rfl rfl rfl ?_
    refine L_q (Q_ixAt 2 j rfl rfl rfl rfl hPl rfl) rfl rfl rfl ?_
    refine L_q (Q_ldEAt 2 j 0 (v := .pointer (some ⟨e.1, 0, none⟩)) rfl rfl rfl rfl hPl (by decide) (by rw [hPg]; rfl)) rfl rfl rfl ?_
    refine L_q (Q_assign rfl) rfl rfl rfl ?_
    refine L_q (Q_assign rfl) rfl rfl rfl ?_
    refine JL_nil ?_
    refine seqQ_normal ?_
    refine J_seq ?_
    refine J_region ?_
    refine L_q (Q_move rfl) rfl rfl rfl ?_
    refine L_q (Q_move rfl) rfl rfl rfl ?_
    refine L_q (Q_assign rfl) rfl rfl rfl ?_
    refine L_q (Q_assign rfl) rfl rfl rfl ?_
    refine JL_nil ?_
    refine seqQ_normal ?_
    refine J_seq ?_
    refine J_seq ?_
    refine J.cut0 (fun x ρ' L' => x = .normal ∧ ∃ lo' : Lim, (K1 = [] ∧ lo' = lo ∨ ∃ K0 k, K1 = K0 ++ [k] ∧ lo' = some (S, K0, k, K2)) ∧ envSub [(0, .pointer (some ⟨p, 0, none⟩)), (2, limV lo), (3, limV hi), (12, .int .i64 (dep d j)), (118, R.v), (119, .int .i64 (es.length : Int)), (120, .int .i64 (j : Int)), (13, .int .i64 (j : Int)), (14, .pointer (some ⟨e.1, 0, none⟩)), (15, limV lo'), (16, limV hi)] ρ' ∧ Ent L' [ndC p S R, slc tKv true S K, slc tNd true R (pL es), stars (es.map (ndE d)), C, F]) ?_ ?_
    · rcases Nat.eq_zero_or_pos j with hj0 | hj0
      · skip
        refine J_region ?_
        refine L_q (Q_move rfl) rfl rfl rfl ?_
        refine L_q ((Q_gtr rfl rfl).as (v' := .bool false) (congrArg Value.bool (decide_eq_false (by omega)))) rfl rfl rfl ?_
        refine JL_nil ?_
        refine seqQ_normal ?_
        refine J_condF rfl ?_
        refine J_skip ?_
        exact ⟨rfl, lo, .inl ⟨List.eq_nil_of_length_eq_zero (by omega), rfl⟩, ⟨rfl, rfl, rfl, rfl, rfl, rfl, rfl, rfl, rfl, rfl, rfl, trivial⟩, Ent.refl _⟩
      · obtain ⟨K0, k, hKk⟩ := snoc_of (l := K1) (by omega)
        have hK0 : K1.length = K0.length + 1 := by rw [hKk]; simp
        have hlk : K0.length < K.length := by omega
        refine J_region ?_
        refine L_q (Q_move rfl) rfl rfl rfl ?_
        refine L_q ((Q_gtr rfl rfl).as (v' := .bool true) (congrArg Value.bool (decide_eq_true (by omega)))) rfl rfl rfl ?_
        refine JL_nil ?_
        refine seqQ_normal ?_
        refine J_condT rfl ?_
        refine J_region ?_
        refine L_q (Q_move rfl) rfl rfl rfl ?_
        refine L_q (Q_nilCheck rfl) rfl rfl rfl ?_
        refine L_q (Q_fa0 rfl) rfl rfl rfl ?_
        refine L_q (Q_ld 0 rfl rfl rfl rfl) rfl rfl rfl ?_
        refine L_q (Q_move rfl) rfl rfl rfl ?_
        refine L_q (Q_sub (r := (K0.length : Int)) rfl rfl (by rw [show (j : Int) - 1 = (K0.length : Int) by omega]; exact IntWalk.i64_in _ (by omega))) rfl rfl rfl ?_
        refine L_q (Q_ixAt 1 K0.length rfl rfl rfl rfl hlk rfl) rfl rfl rfl ?_
        refine L_q (Q_pfa rfl) rfl rfl rfl ?_
        refine L_q (Q_assign rfl) rfl rfl rfl ?_
        refine JL_nil ?_
        exact ⟨rfl, some (S, K0, k, K2), .inr ⟨K0, k, hKk, rfl⟩, ⟨rfl, rfl, rfl, rfl, rfl, rfl, rfl, rfl, rfl, rfl, rfl, trivial⟩, Ent.refl _⟩
    rintro _ ρ4 L4 ⟨rfl, lo', hl', hsub, hent⟩
    refine seqQ_normal ?_
    refine J.sub hsub ?_
    refine J.ent hent ?_
    clear hsub hent
    refine J_seq ?_
    refine J_seq ?_
    refine J.cut0 (fun x ρ' L' => x = .normal ∧ ∃ hi' : Lim, (K2 = [] ∧ hi' = hi ∨ ∃ k K3, K2 = k :: K3 ∧ hi' = some (S, K1, k, K3)) ∧ envSub [(0, .pointer (some ⟨p, 0, none⟩)), (2, limV lo), (3, limV hi), (12, .int .i64 (dep d j)), (118, R.v), (119, .int .i64 (es.length : Int)), (120, .int .i64 (j : Int)), (13, .int .i64 (j : Int)), (14, .pointer (some ⟨e.1, 0, none⟩)), (15, limV lo'), (16, limV hi')] ρ' ∧ Ent L' [ndC p S R, slc tKv true S K, slc tNd true R (pL es), stars (es.map (ndE d)), C, F]) ?_ ?_
    · rcases Nat.lt_or_ge j K.length with hj0 | hj0
      · obtain ⟨k, K3, hKk⟩ := cons_of (l := K2) (by omega)
        refine J_region ?_
        refine L_q (Q_move rfl) rfl rfl rfl ?_
        refine L_q (Q_move rfl) rfl rfl rfl ?_
        refine L_q (Q_nilCheck rfl) rfl rfl rfl ?_
        refine L_q (Q_fa0 rfl) rfl rfl rfl ?_
        refine L_q (Q_ld 0 rfl rfl rfl rfl) rfl rfl rfl ?_
        refine L_q (Q_lenAt 1 rfl rfl) rfl rfl rfl ?_
        refine L_q ((Q_lss rfl rfl).as (v' := .bool true) (congrArg Value.bool (decide_eq_true (by omega)))) rfl rfl rfl ?_
        refine JL_nil ?_
        refine seqQ_normal ?_
        refine J_condT rfl ?_
        refine J_region ?_
        refine L_q (Q_move rfl) rfl rfl rfl ?_
        refine L_q (Q_nilCheck rfl) rfl rfl rfl ?_
        refine L_q (Q_fa0 rfl) rfl rfl rfl ?_
        refine L_q (Q_ld 0 rfl rfl rfl rfl) rfl rfl rfl ?_
        refine L_q (Q_move rfl) rfl rfl rfl ?_
        refine L_q (Q_ixAt 1 K1.length rfl rfl rfl (by omega) (by omega) rfl) rfl rfl rfl ?_
        refine L_q (Q_pfa rfl) rfl rfl rfl ?_
        refine L_q (Q_assign rfl) rfl rfl rfl ?_
        refine JL_nil ?_
        exact ⟨rfl, some (S, K1, k, K3), .inr ⟨k, K3, hKk, rfl⟩, ⟨rfl, rfl, rfl, rfl, rfl, rfl, rfl, rfl, rfl, rfl, rfl, trivial⟩, Ent.refl _⟩
      · skip
        refine J_region ?_
        refine L_q (Q_move rfl) rfl rfl rfl ?_
        refine L_q (Q_move rfl) rfl rfl rfl ?_
        refine L_q (Q_nilCheck rfl) rfl rfl rfl ?_
        refine L_q (Q_fa0 rfl) rfl rfl rfl ?_
        refine L_q (Q_ld 0 rfl rfl rfl rfl) rfl rfl rfl ?_
        refine L_q (Q_lenAt 1 rfl rfl) rfl rfl rfl ?_
        refine L_q ((Q_lss rfl rfl).as (v' := .bool false) (congrArg Value.bool (decide_eq_false (by omega)))) rfl rfl rfl ?_
        refine JL_nil ?_
        refine seqQ_normal ?_
        refine J_condF rfl ?_
        refine J_skip ?_
        exact ⟨rfl, hi, .inl ⟨List.eq_nil_of_length_eq_zero (by omega), rfl⟩, ⟨rfl, rfl, rfl, rfl, rfl, rfl, rfl, rfl, rfl, rfl, rfl, trivial⟩, Ent.refl _⟩
    rintro _ ρ5 L5 ⟨rfl, hi', hh', hsub, hent⟩
    refine seqQ_normal ?_
    refine J.sub hsub ?_
    refine J.ent hent ?_
    clear hsub hent
    refine J_seq ?_
    have hout : Ent [ndC p S R, slc tKv true S K, slc tNd true R (pL es), stars (es.map (ndE d)), C, F] [star C (slc tKv true S K), nodeA d e.1 e.2, stars ((A ++ B).map (ndE d)), ndC p S R, slc tNd true R (pL es), F] := by
      rw [hE]
      exact (Ent.re [3, 4, 1, 0, 2, 5] rfl).trans ((Ent.mid_out (ndE d) A e B).trans ((Ent.re [2, 3, 0, 1, 4, 5, 6] rfl).trans Ent.star_in))
    have hback : Ent [nodeA d e.1 e.2, star C (slc tKv true S K), stars ((A ++ B).map (ndE d)), ndC p S R, slc tNd true R (pL es), F] [ndC p S R, slc tKv true S K, slc tNd true R (pL es), stars (es.map (ndE d)), C, F] := by
      rw [hE]
      exact (Ent.re [1, 0, 2, 3, 4, 5] rfl).trans (Ent.star_out.trans ((Ent.re [2, 3, 0, 1, 4, 5, 6] rfl).trans ((Ent.mid_in (ndE d) A e B).trans (Ent.re [3, 2, 4, 0, 1, 5] rfl))))
    refine J.ent hout ?_
    refine J_region ?_
    refine L_q (Q_move rfl) rfl rfl rfl ?_
    refine L_q (Q_move rfl) rfl rfl rfl ?_
    refine L_q (Q_move rfl) rfl rfl rfl ?_
    refine L_o rfl rfl rfl (O_call [1,0] [2,3,4,5] (hch A e B K1 K2 hE hK (by omega) lo' hi' hl' hh') rfl rfl ?_)
    rintro _ _ ⟨rfl, rfl⟩
    refine JL.norm ?_
    refine L_q (Q_move rfl) rfl rfl rfl ?_
    refine L_q (Q_extract (v := .int .i64 ((d + 1 : Nat) : Int)) rfl rfl) rfl rfl rfl ?_
    refine L_q (Q_extract (v := .bool true) rfl rfl) rfl rfl rfl ?_
    refine L_q (Q_assign rfl) rfl rfl rfl ?_
    refine L_q (Q_assign rfl) rfl rfl rfl ?_
    refine JL_nil ?_
    refine seqQ_normal ?_
    refine J_seq ?_
    refine J_seq ?_
    refine J.ent hback ?_
    refine J.mid (fun ρ' L' => envSub [(0, .pointer (some ⟨p, 0, none⟩)), (2, limV lo), (3, limV hi), (17, .int .i64 ((d + 1 : Nat) : Int)), (118, R.v), (119, .int .i64 (es.length : Int)), (120, .int .i64 (j : Int)), (168, .bool false)] ρ' ∧ Ent L' [ndC p S R, slc tKv true S K, slc tNd true R (pL es), stars (es.map (ndE d)), C, F]) ?_ ?_
    · cases j with
      | zero =>
        refine J_region ?_
        refine L_q (Q_move rfl) rfl rfl rfl ?_
        refine L_q ((Q_not rfl).as (v' := .bool false) rfl) rfl rfl rfl ?_
        refine L_q (Q_move rfl) rfl rfl rfl ?_
        refine L_q (Q_move rfl) rfl rfl rfl ?_
        refine L_q ((Q_gtr rfl rfl).as (v' := .bool false) rfl) rfl rfl rfl ?_
        refine L_q (Q_move rfl) rfl rfl rfl ?_
        refine L_n rfl rfl rfl ?_
        refine L_n rfl rfl rfl ?_
        refine L_n rfl rfl rfl ?_
        refine L_q (Q_pickF rfl rfl) rfl rfl rfl ?_
        refine L_q (Q_pickF rfl rfl) rfl rfl rfl ?_
        refine JL_nil ?_
        exact ⟨rfl, ⟨rfl, rfl, rfl, rfl, rfl, rfl, rfl, rfl, trivial⟩, Ent.refl _⟩
      | succ j =>
        refine J_region ?_
        refine L_q (Q_move rfl) rfl rfl rfl ?_
        refine L_q ((Q_not rfl).as (v' := .bool false) rfl) rfl rfl rfl ?_
        refine L_q (Q_move rfl) rfl rfl rfl ?_
        refine L_q (Q_move rfl) rfl rfl rfl ?_
        refine L_q ((Q_gtr rfl rfl).as (v' := .bool true) (congrArg Value.bool (decide_eq_true (by omega)))) rfl rfl rfl ?_
        refine L_q (Q_move rfl) rfl rfl rfl ?_
        refine L_q (Q_move rfl) rfl rfl rfl ?_
        refine L_q (Q_move rfl) rfl rfl rfl ?_
        refine L_q ((Q_neq rfl rfl).as (v' := .bool false) (congrArg Value.bool (decide_eq_false (by simp)))) rfl rfl rfl ?_
        refine L_q (Q_pickT rfl rfl) rfl rfl rfl ?_
        refine L_q (Q_pickF rfl rfl) rfl rfl rfl ?_
        refine JL_nil ?_
        exact ⟨rfl, ⟨rfl, rfl, rfl, rfl, rfl, rfl, rfl, rfl, trivial⟩, Ent.refl _⟩
    rintro ρ6 L6 ⟨hsub, hent⟩
    refine J.sub hsub ?_
    refine J.ent hent ?_
    clear hsub hent
    refine J_condF rfl ?_
    refine J_skip ?_
    refine seqQ_normal ?_
    refine J_region ?_
    refine L_q (Q_move rfl) rfl rfl rfl ?_
    refine L_q (Q_assign rfl) rfl rfl rfl ?_
    refine JL_nil ?_
    refine blockQ_normal ?_
    refine seqQ_normal ?_
    refine J_region ?_
    refine L_q (Q_add rfl rfl (by first | exact IntWalk.i64_in _ (by omega) | exact IntWalk.u8_in _ (by omega) | exact IntWalk.u32_in _ (by omega) | exact IntWalk.u64_in _ (by omega) | rfl)) rfl rfl rfl ?_
    refine L_q (Q_move rfl) rfl rfl rfl ?_
    refine JL_nil ?_
    exact loopQ_normal (j + 1) hlt (by show es.length - (j + 1) < es.length - j; omega) ⟨rfl, rfl, rfl, rfl, rfl, rfl, rfl, trivial⟩ (Ent.refl _)
  · obtain rfl : j = es.length := by omega
    have hdp : 0 ≤ dep d es.length ∧ dep d es.length ≤ 1001 := by
      cases es.length with
      | zero => show (0 : Int) ≤ 0 ∧ (0 : Int) ≤ 1001; decide
      | succ n => show (0 : Int) ≤ ((d + 1 : Nat) : Int) ∧ ((d + 1 : Nat) : Int) ≤ 1001; omega
    refine J_exit ?_
    refine seqQ_exit ?_
    refine loopQ_exit ?_
    refine blockQ_hit ?_
    refine seqQ_normal ?_
    refine J_seq ?_
    refine J_region ?_
    refine L_q (Q_move rfl) rfl rfl rfl ?_
    refine L_q (Q_add (r := dep d es.length + 1) rfl rfl (IntWalk.i64_in _ (by omega))) rfl rfl rfl ?_
    refine L_q (Q_assign rfl) rfl rfl rfl ?_
    refine L_q (Q_assign rfl) rfl rfl rfl ?_
    refine JL_nil ?_
    refine seqQ_normal ?_
    refine J_ret ?_
    exact retQ_ret _ [ndC p S R, slc tKv true S K, slc tNd true R (pL es), stars (es.map (ndE d)), C] (.cons (RV_tmp rfl) (.cons (RV_tmp rfl) .nil)) ⟨rfl, rfl⟩ (Ent.refl _)
theorem up_after {X Y Z : List Kv} {k : Kv} (h : Up ((X ++ [k]) ++ Y ++ Z)) : Abv Y k.key := by
  rw [List.append_assoc, List.append_assoc] at h
  obtain ⟨_, h2, _⟩ := up_mid h
  exact fun x hx => h2 x (by simp [hx])
theorem up_before {X Y Z : List Kv} {k : Kv} (h : Up (X ++ Y ++ k :: Z)) : Bel Y k.key := by
  obtain ⟨h2, _⟩ := up_mid h
  exact fun x hx => h2 x (by simp [hx])
theorem right_ok (E : World) : ∀ (d p m : Nat) (root : Bool) (t : T d) (C : HProp) (lo hi : Lim), wf m d t → (root = false → 3 ≤ m) → Up (flat d t) → LimOk E C lo → LimOk E C hi → AbvO (flat d t) lo → BelO (flat d t) hi → d ≤ 1000 →
    Does Try.prog E 33 [.pointer (some ⟨p, 0, none⟩), .bool root, limV lo, limV hi] [nodeA d p t, C] fun v L => v = .tuple #[.int .i64 ((d + 1 : Nat) : Int), .bool true] ∧ L = [nodeA d p t, C] := by
  intro d
  induction d with
  | zero =>
    intro p m root t C lo hi hw hrt hu hlo hhi hal hbh hd
    refine Does.leaf fun S R => ?_
    have hb := rbody_ok E 0 p root S R (tks 0 t) ([] : List (Nat × T 0)) C lo hi (wf_ks hw).2 (fun h => Nat.le_trans (hrt h) (wf_ks hw).1) (.inl rfl) (ks_up hw hu) hlo hhi hal hbh hd (fun A e B _ _ h => by simp at h)
    refine Does.post hb (fun F => (show Ent [ndC p S R, slc tKv true S (tks 0 t), slc tNd true R [], C, F] [ndC p S R, slc tKv true S (tks 0 t), slc tNd true R (pL ([] : List (Nat × T 0))), stars (([] : List (Nat × T 0)).map (ndE 0)), C, F] from Ent.stars_nil.trans (Ent.re [1, 2, 3, 0, 4, 5] rfl))) ?_
    rintro v L ⟨hv, rfl⟩
    exact ⟨_, ⟨hv, rfl⟩, fun F => (show Ent [ndC p S R, slc tKv true S (tks 0 t), slc tNd true R (pL ([] : List (Nat × T 0))), stars (([] : List (Nat × T 0)).map (ndE 0)), C, F] [nodeA 0 p t, C, F] from (Ent.re [0, 1, 2, 4, 5] rfl).trans Ent.leafA)⟩
  | succ d ih =>
    intro p m root t C lo hi hw hrt hu hlo hhi hal hbh hd
    obtain ⟨K, Ct⟩ := t
    refine Does.inner fun S R es hm => ?_
    dsimp only at hm ⊢
    subst hm
    have hku : Up K := ks_up hw hu
    have hKl := wf_ks hw
    obtain ⟨_, h7, hC, hwc⟩ := hw
    dsimp only at h7 hC hwc
    rw [List.length_map] at hC
    have hsubK : ∀ x ∈ K, x ∈ flat (d + 1) (K, es.map (·.2)) := fun x hx => by
      show x ∈ ileave K ((es.map (·.2)).map (flat d))
      exact (ks_sub K ((es.map (·.2)).map (flat d)) (by simp [hC])).subset hx
    have hb := rbody_ok E d p root S R K es C lo hi h7 (fun h => Nat.le_trans (hrt h) hKl.1) (.inr hC) hku hlo hhi (by
      cases lo with
      | none => trivial
      | some q => exact fun x hx => hal x (hsubK x hx)) (by
      cases hi with
      | none => trivial
      | some q => exact fun x hx => hbh x (hsubK x hx)) (by omega) (fun A e B K1 K2 hE hK hKA lo' hi' h1 h2 => by
      have hfl := flat_at K1 K2 (A.map (·.2)) (B.map (·.2)) e.2 (by simpa using hKA)
      have e1 : flat (d + 1) (K, es.map (·.2)) = preF d K1 (A.map (·.2)) ++ flat d e.2 ++ postF d K2 (B.map (·.2)) := by rw [← hfl, hK, hE]; simp
      rw [e1] at hu
      have hsub : ∀ x ∈ flat d e.2, x ∈ flat (d + 1) (K, es.map (·.2)) := fun x hx => by rw [e1]; simp [hx]
      have hlen : A.length + B.length = K1.length + K2.length := by
        have x1 : es.length = A.length + B.length + 1 := by rw [hE]; simp; omega
        have x2 : K.length = K1.length + K2.length := by rw [hK]; simp
        omega
      refine ih e.1 3 false e.2 _ lo' hi' (hwc e.2 (by rw [hE]; simp)) (fun _ => Nat.le_refl _) (up_app (up_app hu).1).2 ?_ ?_ ?_ ?_ (by omega)
      · rcases h1 with ⟨_, rfl⟩ | ⟨K0, k, rfl, rfl⟩
        · exact hlo.st
        · rw [hK, List.append_assoc]; exact LimOk.own
      · rcases h2 with ⟨_, rfl⟩ | ⟨k, K3, rfl, rfl⟩
        · exact hhi.st
        · rw [hK]; exact LimOk.own
      · rcases h1 with ⟨_, rfl⟩ | ⟨K0, k, rfl, rfl⟩
        · cases lo' with
          | none => trivial
          | some q => exact fun x hx => hal x (hsub x hx)
        · obtain ⟨A0, a, rfl⟩ := snoc_of (l := A) (by simp at hKA; omega)
          rw [List.map_append, List.map_cons, List.map_nil, preF_snoc _ _ _ _ (by simpa using hKA)] at hu
          exact up_after hu
      · rcases h2 with ⟨_, rfl⟩ | ⟨k, K3, rfl, rfl⟩
        · cases hi' with
          | none => trivial
          | some q => exact fun x hx => hbh x (hsub x hx)
        · obtain ⟨b, B0, rfl⟩ := cons_of (l := B) (by simp at hKA hlen; omega)
          rw [List.map_cons, postF_cons] at hu
          exact up_before hu)
    refine Does.post hb (fun F => Ent.refl _) ?_
    rintro v L ⟨hv, rfl⟩
    exact ⟨_, ⟨by rw [hv, hC]; rfl, rfl⟩, fun F => Ent.innerA (es := es) rfl⟩
theorem tright_ok (E : World) (p : Nat) (l : List Kv) (hl : l.length ≤ 1000000) : Does Try.prog E 21 [.pointer (some ⟨p, 0, none⟩)] [treeA p l] fun v L => v = .bool true ∧ L = [treeA p l] := by
  refine Does.of Try.func21 rfl Try.ntmps21 rfl rfl fun F => ?_
  refine J.norm ?_
  refine J_seq ?_
  refine J_region ?_
  refine L_q (Q_assign rfl) rfl rfl rfl ?_
  refine JL_nil ?_
  refine seqQ_normal ?_
  refine J_seq ?_
  refine J_seq ?_
  refine J_region ?_
  refine L_q (Q_move rfl) rfl rfl rfl ?_
  refine L_q ((Q_peql rfl rfl).as (v' := .bool false) rfl) rfl rfl rfl ?_
  refine JL_nil ?_
  refine seqQ_normal ?_
  refine J_condF rfl ?_
  refine J_skip ?_
  refine seqQ_normal ?_
  refine J_seq ?_
  refine J.tree fun r d t hu hw hf => ?_
  have hd : d ≤ 1000 := by
    by_cases h0 : l = []
    · have := (flat_size d t hw).2
      rw [hf, h0] at this
      have h4 : d < 4 ^ d := Nat.lt_pow_self (by decide)
      have h5 : 4 ^ d ≤ (min d 1 + 1) * 4 ^ d := Nat.le_mul_of_pos_left _ (Nat.succ_pos _)
      simp at this; omega
    · have := (flat_ne0 hw (by rw [hf]; exact h0)).1
      rw [hf] at this
      rcases Nat.lt_or_ge 1000 d with h | h
      · have h2 : 4 ^ 21 ≤ 4 ^ d := Nat.pow_le_pow_right (by decide) (by omega)
        have h3 : (4 : Nat) ^ 21 = 4398046511104 := by decide
        omega
      · exact h
  have hr := right_ok E d r (min d 1) true t (stars []) none none hw (fun h => by cases h) (by rw [hf]; exact hu) trivial trivial trivial trivial hd
  refine J.ent Ent.stars_nil ?_
  refine J_region ?_
  refine L_q (Q_move rfl) rfl rfl rfl ?_
  refine L_q (Q_nilCheck rfl) rfl rfl rfl ?_
  refine L_q (Q_fa0 rfl) rfl rfl rfl ?_
  refine L_q (Q_ld 2 rfl rfl rfl rfl) rfl rfl rfl ?_
  refine L_o rfl rfl rfl (O_call [1,0] [2,3] hr rfl rfl ?_)
  rintro _ _ ⟨rfl, rfl⟩
  refine JL.norm ?_
  refine L_q (Q_move rfl) rfl rfl rfl ?_
  refine L_q (Q_extract (v := .int .i64 ((d + 1 : Nat) : Int)) rfl rfl) rfl rfl rfl ?_
  refine L_q (Q_extract (v := .bool true) rfl rfl) rfl rfl rfl ?_
  refine L_q (Q_assign rfl) rfl rfl rfl ?_
  refine L_q (Q_assign rfl) rfl rfl rfl ?_
  refine JL_nil ?_
  refine seqQ_normal ?_
  refine J_seq ?_
  refine J_region ?_
  refine L_q (Q_move rfl) rfl rfl rfl ?_
  refine L_q (Q_assign rfl) rfl rfl rfl ?_
  refine JL_nil ?_
  refine seqQ_normal ?_
  refine J_ret ?_
  exact retQ_ret _ [treeA p l] (.cons (RV_tmp rfl) .nil) ⟨rfl, rfl⟩ ((Ent.re [0, 2, 3] rfl).trans ((Ent.mkX hw hf).trans ((Ent.re [1, 0, 2] rfl).trans (Ent.tree hu))))
end Go.Proofs
