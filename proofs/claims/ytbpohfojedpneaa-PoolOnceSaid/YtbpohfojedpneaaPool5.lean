/- A pool: what it holds, and how that lies. -/
import Derived.Test.YtbpohfojedpneaaPool4
set_option autoImplicit false
namespace Go.Proofs
open Go.SL
abbrev En := Int × (SV × List Rq)
def m1 (es : List En) : List (Int × SV) := es.map fun e => (e.1, e.2.1)
def svOf (es : List En) (k : Int) : SV := ((mget es k).map (·.1)).getD SV.nil
def lsOf (es : List En) (k : Int) : List Rq := ((mget es k).map (·.2)).getD []
def xOf (m : List (Int × Int)) (k : Int) : Int := (mget m k).getD 0
def restE (es : List En) (k : Int) : List En := es.filter fun e => decide (e.1 ≠ k)
theorem mget_m1 (es : List En) (k : Int) : mget (m1 es) k = (mget es k).map (·.1) := by
  induction es with
  | nil => rfl
  | cons e es ih =>
    show mget ((e.1, e.2.1) :: m1 es) k = _
    rw [mget_cons, mget_cons, ih]
    split <;> rfl
theorem mset_m1 (es : List En) (k : Int) (S : SV) (l : List Rq) : m1 (mset es k (S, l)) = mset (m1 es) k S := by
  induction es with
  | nil => rfl
  | cons e es ih =>
    show m1 (if e.1 = k then (k, (S, l)) :: es else e :: mset es k (S, l)) = mset ((e.1, e.2.1) :: m1 es) k S
    simp only [mset]
    split
    · rfl
    · rw [← ih]; rfl
theorem m1_keys (es : List En) : (m1 es).map (·.1) = es.map (·.1) := by simp [m1]
theorem lsOf_mset (es : List En) (k : Int) (S : SV) (l : List Rq) (j : Int) : lsOf (mset es k (S, l)) j = if k = j then l else lsOf es j := by
  unfold lsOf; rw [mget_mset]; split <;> rfl
theorem xOf_mset (m : List (Int × Int)) (k v j : Int) : xOf (mset m k v) j = if k = j then v else xOf m j := by
  unfold xOf; rw [mget_mset]; split <;> rfl
theorem rest_none {es : List En} {k : Int} (h : mget es k = none) : restE es k = es := by
  refine List.filter_eq_self.2 fun e he => decide_eq_true fun hk => ?_
  have := (mget_mem es k).1 (by rw [← hk]; exact List.mem_map_of_mem he)
  rw [h] at this; cases this
theorem rest_perm {es : List En} {k : Int} {v : SV × List Rq} (hn : (es.map (·.1)).Nodup) (h : mget es k = some v) : es.Perm ((k, v) :: restE es k) := by
  induction es with
  | nil => cases h
  | cons e es ih =>
    rw [List.map_cons, List.nodup_cons] at hn
    rw [mget_cons] at h
    split at h
    · rename_i he
      obtain rfl := Option.some.inj h
      have h2 : mget es k = none := mget_none es k (by rw [← he]; exact hn.1)
      rw [restE, List.filter_cons, if_neg (by simp [he])]
      rw [show es.filter (fun e => decide (e.1 ≠ k)) = es from rest_none h2]
      subst he
      exact List.Perm.refl _
    · rename_i he
      rw [restE, List.filter_cons, if_pos (by simpa using he)]
      exact ((ih hn.2 h).cons e).trans (List.Perm.swap _ _ _)
theorem mset_perm (es : List En) (k : Int) (v : SV × List Rq) (hn : (es.map (·.1)).Nodup) : (mset es k v).Perm ((k, v) :: restE es k) := by
  have h1 := rest_perm (mset_nodup es k v hn) (by rw [mget_mset, if_pos rfl])
  have h2 : restE (mset es k v) k = restE es k := by
    clear hn h1
    induction es with
    | nil => simp [mset, restE]
    | cons e es ih =>
      simp only [mset]
      split
      · rename_i he; simp [restE, he]
      · rename_i he
        simp only [restE, List.filter_cons] at ih ⊢
        rw [ih]
  rw [h2] at h1; exact h1
def mWt : MTy Int SV := ⟨3, 27, .int .i64, fun z => .int .i64 z, fun S => S.v, fun a b => by simp only [Instr.sameNow, if_true, Option.some.injEq]; by_cases h : a = b <;> simp [h], fun a => by simp [Instr.sameBits], .inl ⟨.i64, rfl⟩⟩
instance : TyU Try.prog mWt.kt mWt.kd := inferInstanceAs (TyU Try.prog 3 (.int .i64))
instance : TyI Try.prog mWt.vt 1 (.slice none 0 0) 24 := inferInstanceAs (TyI Try.prog 27 1 (.slice none 0 0) 24)
instance : TyU Try.prog 53 (.map mWt.kt mWt.vt) := inferInstanceAs (TyU Try.prog 53 (.map 3 27))
def mNx : MTy Int Int := ⟨3, 3, .int .i64, fun z => .int .i64 z, fun z => .int .i64 z, fun a b => by simp only [Instr.sameNow, if_true, Option.some.injEq]; by_cases h : a = b <;> simp [h], fun a => by simp [Instr.sameBits], .inl ⟨.i64, rfl⟩⟩
instance : TyU Try.prog mNx.kt mNx.kd := inferInstanceAs (TyU Try.prog 3 (.int .i64))
instance : TyI Try.prog mNx.vt 1 (.int .i64 0) 8 := inferInstanceAs (TyI Try.prog 3 1 (.int .i64 0) 8)
instance : TyU Try.prog 54 (.map mNx.kt mNx.vt) := inferInstanceAs (TyU Try.prog 54 (.map 3 3))
theorem wt_val (es : List En) (k : Int) : ((mget (m1 es) k).map mWt.venc).getD (.slice none 0 0) = (svOf es k).v := by
  rw [mget_m1, svOf]
  cases mget es k <;> rfl
theorem nx_val (m : List (Int × Int)) (k : Int) : ((mget m k).map mNx.venc).getD (.int .i64 0) = .int .i64 (xOf m k) := by
  rw [xOf]
  cases mget m k <;> rfl
/-- How the maps hold what waits, and what is next. -/
structure PM (es : List En) (m2 : List (Int × Int)) (W : Int → List Rq) (X : Int → Int) : Prop where
  nd1 : (es.map (·.1)).Nodup
  nd2 : (m2.map (·.1)).Nodup
  w : ∀ k, lsOf es k = W k
  x : ∀ k, xOf m2 k = X k
abbrev poolC (p r1 r2 n : Nat) : HProp := cel p [.map (some r1), .map (some r2), .int .i64 (n : Int)] 56
def rqC (e : En) : HProp := slc tRq true e.2.1 e.2.2
def starsE (es : List En) : HProp := stars (es.map rqC)
def poolA (p : Nat) (W : Int → List Rq) (X : Int → Int) (n : Nat) : HProp := hex fun i : Nat × Nat × List En × List (Int × Int) => star (pur (PM i.2.2.1 i.2.2.2 W X)) (stars [poolC p i.1 i.2.1 n, mpC mWt i.1 (m1 i.2.2.1), mpC mNx i.2.1 i.2.2.2, starsE i.2.2.1])
theorem Sat.poolA_out {E w : World} {p n : Nat} {W : Int → List Rq} {X : Int → Int} {L : List HProp} (h : Sat E w (poolA p W X n :: L)) : ∃ i : { i : Nat × Nat × List En × List (Int × Int) // PM i.2.2.1 i.2.2.2 W X }, Sat E w (poolC p i.1.1 i.1.2.1 n :: mpC mWt i.1.1 (m1 i.1.2.2.1) :: mpC mNx i.1.2.1 i.1.2.2.2 :: starsE i.1.2.2.1 :: L) := by
  obtain ⟨i, hi⟩ := h.ex
  obtain ⟨hm, h2⟩ := hi.star.fact
  refine ⟨⟨i, hm⟩, ?_⟩
  have h3 := h2.rot (A := [stars [poolC p i.1 i.2.1 n, mpC mWt i.1 (m1 i.2.2.1), mpC mNx i.2.1 i.2.2.2, starsE i.2.2.1]]) (B := L)
  have h4 := h3.unfold
  exact Sat.rot (A := L) h4
theorem Ent.poolA_in {p r1 r2 n : Nat} {es : List En} {m2 : List (Int × Int)} {W : Int → List Rq} {X : Int → Int} {L : List HProp} (hm : PM es m2 W X) : Ent (poolC p r1 r2 n :: mpC mWt r1 (m1 es) :: mpC mNx r2 m2 :: starsE es :: L) (poolA p W X n :: L) := fun E w h => by
  have h1 := Sat.rot (A := [poolC p r1 r2 n, mpC mWt r1 (m1 es), mpC mNx r2 m2, starsE es]) (B := L) h
  have h2 := h1.fold
  have h3 : Sat E w (stars [poolC p r1 r2 n, mpC mWt r1 (m1 es), mpC mNx r2 m2, starsE es] :: L) := Sat.rot (A := L) h2
  have h4 : Sat E w (pur (PM es m2 W X) :: stars [poolC p r1 r2 n, mpC mWt r1 (m1 es), mpC mNx r2 m2, starsE es] :: L) := h3.lay fun _ => hm
  exact (h4.mkstar).mkex (f := fun i : Nat × Nat × List En × List (Int × Int) => star (pur (PM i.2.2.1 i.2.2.2 W X)) (stars [poolC p i.1 i.2.1 n, mpC mWt i.1 (m1 i.2.2.1), mpC mNx i.2.1 i.2.2.2, starsE i.2.2.1])) (r1, r2, es, m2)
theorem J.poolA {P : Program} {E : World} {n' : Nat} {c : Code} {Q : Post} {ρ : Env} {p n : Nat} {W : Int → List Rq} {X : Int → Int} {L : List HProp} (h : ∀ r1 r2 es m2, PM es m2 W X → J P E n' c Q ρ (poolC p r1 r2 n :: mpC mWt r1 (m1 es) :: mpC mNx r2 m2 :: starsE es :: L)) : J P E n' c Q ρ (Go.Proofs.poolA p W X n :: L) :=
  J.open (fun _ hs => Sat.poolA_out hs) fun i => h i.1.1 i.1.2.1 i.1.2.2.1 i.1.2.2.2 i.2
theorem _root_.Go.SL.Sat.tail {E w : World} {c : HProp} {L : List HProp} (h : Sat E w (c :: L)) : Sat E w L := by
  obtain ⟨fr, f1, f2, f3⟩ := h.own
  exact ⟨h.os, h.tape, h.output, h.size, h.old, fun j => fr (j + 1), fun i c hc => f1 (i + 1) c (by simpa using hc), fun i hi => f2 (i + 1) (by simpa using hi), fun i j hi hj hne => f3 (i + 1) (j + 1) (by simpa using hi) (by simpa using hj) (by omega)⟩
/-- A client's requests taken out. -/
theorem Ent.cl_out {es : List En} {L : List HProp} (hn : (es.map (·.1)).Nodup) (k : Int) : Ent (starsE es :: L) (slc tRq true (svOf es k) (lsOf es k) :: starsE (restE es k) :: L) := by
  cases h : mget es k with
  | none =>
    rw [rest_none h, svOf, lsOf, h]
    exact Ent.mk fun _ _ hs => (hs.lay_nil tRq true : Sat _ _ (slc tRq true SV.nil [] :: _))
  | some v =>
    rw [svOf, lsOf, h]
    exact Ent.stars_out (((rest_perm hn h).map rqC).trans (List.Perm.refl _))
theorem Ent.cl_in {es : List En} {L : List HProp} (hn : (es.map (·.1)).Nodup) (k : Int) (S : SV) (l : List Rq) : Ent (slc tRq true S l :: starsE (restE es k) :: L) (starsE (mset es k (S, l)) :: L) :=
  Ent.stars_in (((mset_perm es k (S, l) hn).map rqC).symm)
theorem Ent.cl_back {es : List En} {L : List HProp} (hn : (es.map (·.1)).Nodup) (k : Int) : Ent (slc tRq true (svOf es k) (lsOf es k) :: starsE (restE es k) :: L) (starsE es :: L) := by
  cases h : mget es k with
  | none =>
    rw [rest_none h]
    exact fun E w hs => hs.tail
  | some v =>
    rw [svOf, lsOf, h]
    exact Ent.stars_in (((rest_perm hn h).map rqC).symm)
end Go.Proofs
