/- Part 31 of the texts below the row: Sl49, Dkg4, Sl19, Sl20, Gat1. -/
import Derived.MapKept
import Derived.Lib.SliceRun
import Derived.Test.YtdggicfcpcjjlaaGreatDoorM1
import Derived.Test.YtdggicfcpcjjlaaGreatDoorM9
import Derived.Test.YtdggicfcpcjjlaaGreatDoorM13
import Derived.Test.YtdggicfcpcjjlaaGreatDoorM23
import Derived.Test.YtdggicfcpcjjlaaGreatDoorM30
/- Fields of values; methods of pointers behind interfaces; assertions of slices; interfaces compared with nothing. -/
set_option autoImplicit false
namespace Go.SL
/-- A pointer type's own method. -/
structure MetPt (P : Program) (t : Nat) (name : String) (f : Nat) : Prop where
 m : ((P.info? t).bind fun i => (i.methods.find? (·.name == name)).map fun m => (m.path.toList, m.func)) = some ([], some (f, true))
 u : (match P.underlying t with | some (.pointer _) => true | _ => false) = true
theorem MetPt.un {P : Program} {t f : Nat} {name : String} (h : MetPt P t name f) : ∃ e, P.underlying t = some (.pointer e) := by
 have := h.u
 split at this
 ·rename_i fs e; exact ⟨fs, e⟩
 ·cases this
theorem MetPt.get {P : Program} {t f : Nat} {name : String} (h : MetPt P t name f) : ∃ i m, P.info? t = some i ∧ i.methods.find? (·.name == name) = some m ∧ m.path.toList = [] ∧ m.func = some (f, true) := by
 have := h.m
 cases e : P.info? t with
 | none => rw [e] at this; cases this
 | some i =>
  rw [e] at this
  simp only [Option.bind_some] at this
  cases e2 : i.methods.find? (·.name == name) with
  | none => rw [e2] at this; cases this
  | some m =>
   rw [e2] at this
   simp only [Option.map_some, Option.some.injEq, Prod.mk.injEq] at this
   exact ⟨i, m, rfl, e2, this.1, this.2⟩
theorem run_methodP {P : Program} {t f : Nat} {name : String} (h : MetPt P t name f) (k : Nat) (v : Value) (w : World) : (method (k + 1) t v name).run P w = .ok (f, v) w := by
 obtain ⟨i, m, h1, h2, h3, h4⟩ := h.get
 obtain ⟨fs, h5⟩ := h.un
 unfold method
 simp only [Sem.run_bind, run_typeInfo w h1, Result.andThen_ok, h2, h3, h4, follow, Sem.run_pure, receiverAt, run_underlying h5, Place.get]
section
variable {P : Program} {E : World} {n : Nat} {ρ : Env} {L : List HProp} {dst : Option Tmp} {ty : TypeId} {pos : String} {after : Array Edge} {g : Option (Nat × Bool)}
/-- A pointer's method, by an interface value. -/
theorem O_invokeP {t f : Nat} {name : String} {x : Operand} {xs : List Operand} {ts : Array TypeId} {v : Value} {vs : List Value} {K K' : Value → List HProp → Prop} {pre R : List HProp} (idx ridx : List Nat) [hf : HasFn P f] (hm : MetPt P t name f) (hxf : ρ.ev x = some (.iface t v)) (hx : ρ.evs xs = some vs)
 (hc : Does P E f (v :: vs) pre K')
 (hi : okIdx L.length (idx ++ ridx) = true) [hp : NormL (pick idx L) pre] [hR : NormL (pick ridx L) R]
 (hK : ∀ v L', K' v L' → K v (L' ++ R)) : JOp P E n ⟨dst, .call ⟨.invoke x name, xs.toArray, ts⟩, ty, pos, after, g⟩ K ρ L := fun a w ha hs next Q hn => by
 have h1 : Sat E w (pre ++ R) := by
  rw [← hp.h, ← hR.h]
  have := hs.pick _ hi
  rw [SL.pick, List.map_append] at this
  exact this
 have h2 := hc (stars R) w h1.fold
 unfold Oper.wp
 simp only [execOp, resolve]
 have e1 : (xs.toArray.map a.eval) = vs.toArray := by simp [← ha.evs hx]
 have e3 := run_methodP hm (P.types.size + Made.depth - 1) v w
 have e4 : P.types.size + Made.depth - 1 + 1 = P.types.size + Made.depth := by unfold Made.depth; omega
 rw [e4] at e3
 have e5 : (#[Value.iface t v] ++ vs.toArray)[0]? = some (.iface t v) := by simp
 have e6 : (#[Value.iface t v] ++ vs.toArray).extract 1 (#[Value.iface t v] ++ vs.toArray).size = vs.toArray := by simp
 have e7 : (#[v] ++ vs.toArray) = (v :: vs).toArray := by simp
 simp only [e1, ha.ev hxf, run_bind_pure, invoke, e5, e6, callMethod]
 have e8 : ((do let (f, receiver) ← method ((← program).types.size + Made.depth) t v name; callFunc f (#[receiver] ++ vs.toArray) : Sem Next)).run P w = .ok (.enter f (v :: vs).toArray) w := by
  simp only [Sem.run_bind, run_program, Result.andThen_ok, e3, run_callFunc hf, e7]
 rw [e8]
 simp only [Oper.upon_enter]
 refine h2.mono ?_
 rintro e w' ⟨v, L', rfl, hk, hs'⟩
 exact hn v _ w' (hK v L' hk) hs'.unfold
/-- A field of a struct's value: of one cell. -/
class FldV (P : Program) (t f : Nat) (off : outParam Nat) : Prop where
 h : ∀ (cs : List Value) (v : Value) (w : World), cs[off]? = some v → (Instr.field t (.agg cs.toArray) f).run P w = .ok v w
theorem FldV.of {t f : Nat} {fs : Array Field} {fd : Field} {d : TypeDesc} (u : P.underlying t = some (.struct fs)) (hf : fs[f]? = some fd) (ud : P.underlying fd.type = some d) (hd : isAggD d = false) : FldV P t f fd.offset := ⟨fun cs v w hv => by
 simp [Instr.field, run_underlying u, hf, asAgg, part, run_isAgg ud, hd, hv]⟩
theorem Q_field {t f off : Nat} {x : Operand} {cs : List Value} {v : Value} [k : FldV P t f off] (hx : ρ.ev x = some (.agg cs.toArray)) (hv : cs[off]? = some v) :
 QOp P E n ⟨dst, .field t x f, ty, pos, after, g⟩ ρ L v := fun c w ha _ => by
 have := k.h cs v w hv
 simp [execOp, ha.ev hx, this]
/-- Is it a slice of that type? -/
theorem Q_tassertS {a t : Nat} {x : Operand} {v : Value} {e : Nat} [u : TyU P a (.slice e)] (hx : ρ.ev x = some (.iface a v)) : QOp P E n ⟨dst, .typeAssert x t a true, ty, pos, after, g⟩ ρ L (.tuple #[v, .bool true]) := fun c w ha hs => by
 simp only [execOp, ha.ev hx]
 simp [Instr.typeAssert, run_underlying u.h]
theorem Q_tassertN {a t sz by_ : Nat} {x : Operand} {z : Value} {e : Nat} [u : TyU P a (.slice e)] [k : TyI P a sz z by_] (hx : ρ.ev x = some .nilIface) : QOp P E n ⟨dst, .typeAssert x t a true, ty, pos, after, g⟩ ρ L (.tuple #[z, .bool false]) := fun c w ha hs => by
 obtain ⟨r, hr, _, hz, _⟩ := k.get
 simp only [execOp, ha.ev hx]
 simp [Instr.typeAssert, run_underlying u.h, zeroValue, typeInfo, run_program, hr, hz]
variable {t t' : Nat} {x y : Operand}
theorem Q_ieqN {ms : Array (String × TypeId)} [u : TyU P t (.interface ms)] (hx : ρ.ev x = some .nilIface) : QOp P E n ⟨dst, .binOp .eql t x (.const .nilIface) t', ty, pos, after, g⟩ ρ L (.bool true) := fun c w ha hs => by
 have h : ∀ d : Nat, (Op.equalIn (d + 1) t .nilIface .nilIface).run P w = .ok true w := fun d => by simp [Op.equalIn, run_underlying u.h]
 refine run_binOp c w ha hx rfl (by rw [eqGuard_nil_constR]; rfl) ?_
 simp only [binOp]
 simp [Op.equal, Op.maxDepth, h 9999]
theorem Q_ieqS {ms : Array (String × TypeId)} {a : TypeId} {v : Value} [u : TyU P t (.interface ms)] (hx : ρ.ev x = some .nilIface) (hy : ρ.ev y = some (.iface a v)) : QOp P E n ⟨dst, .binOp .eql t x y t', ty, pos, after, g⟩ ρ L (.bool false) := fun c w ha hs => by
 have h : ∀ d : Nat, (Op.equalIn (d + 1) t .nilIface (.iface a v)).run P w = .ok false w := fun d => by simp [Op.equalIn, run_underlying u.h]
 refine run_binOp c w ha hx hy (by simp [eqGuard]) ?_
 simp only [binOp]
 simp [Op.equal, Op.maxDepth, h 9999]
end
end Go.SL
/- Deals: a node's values; the keys. -/
set_option autoImplicit false
namespace Go.Proofs
open Go.SL
theorem kP_add (j k : Nat) (A : Pt) : kP (j + k) A = Ec.E.add (kP j A) (kP k A) := Ec.E.mul_add j k A
theorem kP_mod (k : Nat) : kP (k % Nt.pQ) gP = kP k gP := Ec.E.mul_mod ordG k
theorem oddQ : Nt.pQ % 2 = 1 := by decide
theorem noTwo (k : Nat) : NoTwo (kP k gP) := fun P hP hy => by
 have hneg : (kP k gP).neg = kP k gP := Ec.E.ext (by
  show Ec.neg (kP k gP).p = (kP k gP).p
  rw [hP]
  show some (⟨P.x, -P.y⟩ : Ec.Af Nt.pP) = some P
  obtain ⟨x, y⟩ := P
  dsimp only at hy
  subst hy
  congr 2
  grobner)
 have h2 : kP (k + k) gP = Ec.E.zero := by
  rw [kP_add]
  conv => lhs; arg 2; rw [← hneg]
  exact Ec.E.add_neg _
 have h3 : kP ((k + k) % Nt.pQ) gP = Ec.E.zero := by rw [kP_mod]; exact h2
 have h4 : (k + k) % Nt.pQ = 0 := by
  rcases Nat.eq_zero_or_pos ((k + k) % Nt.pQ) with h | h
  ·exact h
  ·exact absurd h3 (mul_nz h (Nat.mod_lt _ (by decide)))
 have h5 : k % Nt.pQ = 0 := by
  have hq := oddQ
  generalize Nt.pQ = q at *
  have h6 : q ∣ k := by
   have h7 : q ∣ 2 * k := by rw [Nat.two_mul]; exact Nat.dvd_of_mod_eq_zero h4
   obtain ⟨c, hc⟩ := h7
   have hc2 : c % 2 = 0 := by
    have h8 := congrArg (· % 2) hc
    simp only [Nat.mul_mod_right] at h8
    rw [Nat.mul_mod, hq, Nat.one_mul, Nat.mod_mod] at h8
    exact h8.symm
   obtain ⟨e, rfl⟩ : ∃ e, c = 2 * e := ⟨c / 2, by omega⟩
   refine ⟨e, ?_⟩
   have h9 : 2 * k = 2 * (q * e) := by rw [hc]; ac_rfl
   omega
  exact Nat.mod_eq_zero_of_dvd h6
 have h6 : kP k gP = Ec.E.zero := by rw [← kP_mod, h5]; rfl
 rw [h6] at hP
 cases hP
def pol (polys : List (List W4)) (c : Nat) : List W4 := polys.getD (c - 1) []
def keyN (polys : List (List W4)) (ch : List Nat) : Nat := ch.foldl (fun s c => s + ((pol polys c).getD 0 z4).n) 0
theorem keyN_take (polys : List (List W4)) (ch : List Nat) (i : Nat) (h : i < ch.length) : keyN polys (ch.take (i + 1)) = keyN polys (ch.take i) + ((pol polys ch[i]).getD 0 z4).n := foldl_take _ _ _ _ h
/-- What Keys fills. -/
noncomputable def kst (N : Nat) : Nat → List Pw
 | 0 => [pwZ]
 | _ + 1 => [pw (kP N gP)]
theorem pw_z : pw (kP 0 gP) = pw0 := rfl
/-- Deals of one epoch each. -/
structure DsOf (ds : List Dl) (n t : Nat) (polys : List (List W4)) : Prop where
 len : polys.length = ds.length
 of : ∀ i (h : i < ds.length), DlOf ds[i] n [polys[i]]
 deg : ∀ c ∈ polys, c.length = t + 1
theorem DsOf.pol {ds : List Dl} {n t : Nat} {polys : List (List W4)} (h : DsOf ds n t polys) (k : Nat) (hk : k < ds.length) : pol polys (k + 1) = polys[k]'(by rw [h.len]; exact hk) := by
 unfold Go.Proofs.pol
 rw [Nat.add_sub_cancel]
 exact getD_eq _ _ _ _
instance : FldV Tryz.prog 43 0 0 := FldV.of Tryz.underlying43 (fd := { name := "Commits", type := 41, offset := 0, embedded := false, tag := "", pkgPath := "", byteOffset := 0 }) rfl Tryz.underlying41 rfl
instance : FldV Tryz.prog 43 1 1 := FldV.of Tryz.underlying43 (fd := { name := "Values", type := 38, offset := 1, embedded := false, tag := "", pkgPath := "", byteOffset := 24 }) rfl Tryz.underlying38 rfl
attribute [local irreducible] J JL QOp JOp seqQ blockQ loopQ retQ slc cel hex star pur stars Does RV Ent pAt scopeQ JR seqR endR JLI DoesY
section
variable (E : World)
theorem of_ok (f : Bool) (D : SV) (hs : List (SV × SV)) (hl : hs.length ≤ 1000) (k : Nat) (hk : k < hs.length) : Does Tryz.prog E 45 [D.v, .int .i64 ((k + 1 : Nat) : Int)] [slc tDl f D hs] fun v L => v = dlV (hs[k]).1 (hs[k]).2 ∧ L = [slc tDl f D hs] := by
 refine Does.of Tryz.func45 rfl Tryz.ntmps45 rfl rfl fun F => ?_
 refine Xb ?_
 refine L_o rfl rfl rfl (O_alloc fun b4 => ?_)
 refine Xt ?_
 refine Xg ?_
 refine XcV ?_
 refine X7 ?_
 refine XX ?_
 refine XbE ?_
 refine Xy ?_
 refine Xv ?_
 refine Lq ((Q_sub rfl rfl (IntWalk.i64_in _ (by omega))).as (v' := .int .i64 (k : Int)) (congrArg (Value.int .i64) (by omega))) ?_
 refine Lq (Q_ixAt 1 k rfl rfl rfl rfl hk rfl) ?_
 refine Lq (Q_ldEAAt 1 k 0 (vs := dlL (hs[k]).1 (hs[k]).2) rfl rfl rfl rfl hk (Nat.le_refl 2) rfl) ?_
 refine Xbh ?_
 exact retQ_ret _ [_] (.cons (RV_cell 0 rfl rfl rfl rfl) .nil) ⟨rfl, rfl⟩ (Ent.re [1,2] rfl)
variable (n t : Nat) (hn : n ≤ 1000) (ht : t ≤ 2) (D CH : SV) (ds : List Dl) (polys : List (List W4)) (hds : DsOf ds n t polys) (hdl : ds.length ≤ 1000) (ch : List Nat) (hch : ∀ c ∈ ch, 1 ≤ c ∧ c ≤ ds.length) (hcl : ch.length ≤ 1000)
include hn ht hds hdl hch hcl
omit ht in
theorem mine_ok (m : Nat) (hm : m < n) : Does Tryz.prog E 12 [D.v, CH.v, .int .i64 0, .int .i64 ((m + 1 : Nat) : Int)] [slc tDl true D (ds.map hdD), stars (ds.map dlA), slc tN true CH ch] fun v L => ∃ T : SV, v = .tuple #[T.v, .int .i64 0] ∧ L = [slc tNm true T (ch.map fun c => valW (pol polys c) (m + 1)), slc tDl true D (ds.map hdD), stars (ds.map dlA), slc tN true CH ch] := by
 refine Does.of Tryz.func12 rfl Tryz.ntmps12 rfl rfl fun F => ?_
 refine Xb ?_
 refine Xs ?_
 refine Sr ?_
 refine XA ?_
 refine XbN ?_
 refine XJ ?_
 refine J.ent (Ent.mk fun _ _ h => (h.lay_nil tNm true : Sat _ _ (slc tNm true SV.nil [] :: _))) ?_
 refine J_loop (fun i : Nat × SV => i.1 ≤ ch.length) (fun i => [(0, D.v), (2, .int .i64 0), (3, .int .i64 ((m + 1 : Nat) : Int)), (10, i.2.v), (14, CH.v), (15, .int .i64 (ch.length : Int)), (16, .int .i64 (i.1 : Int))]) (fun i => [slc tNm true i.2 ((ch.take i.1).map fun c => valW (pol polys c) (m + 1)), slc tDl true D (ds.map hdD), stars (ds.map dlA), slc tN true CH ch, F]) (fun i => ch.length - i.1) (0, SV.nil) (Nat.zero_le _) ⟨rfl, rfl, rfl, rfl, rfl, rfl, rfl, trivial⟩ (Ent.refl _) ?_
 rintro ⟨i, T⟩ hi
 dsimp only at hi
 by_cases h : i < ch.length
 ·obtain ⟨c1, c2⟩ := hch _ (List.getElem_mem h)
  have htk : (ch.take (i + 1)).map (fun c => valW (pol polys c) (m + 1)) = (ch.take i).map (fun c => valW (pol polys c) (m + 1)) ++ [valW (pol polys ch[i]) (m + 1)] := by
   rw [List.take_succ_eq_append_getElem h, List.map_append]; rfl
  obtain ⟨k, hk⟩ : ∃ k, ch[i] = k + 1 := ⟨ch[i] - 1, by omega⟩
  have hkd : k < ds.length := by omega
  have hkm : k < (ds.map hdD).length := by rw [List.length_map]; exact hkd
  have hgd : (ds.map hdD)[k]'hkm = hdD ds[k] := List.getElem_map ..
  have hof := of_ok E true D (ds.map hdD) (by rw [List.length_map]; exact hdl) k hkm
  rw [hgd] at hof
  have hdo := hds.of k hkd
  have hvl := hdo.vlen
  have hmv : m < (ds[k]).v.length := by omega
  have hg1 : ((ds[k]).v.map (·.1))[m]'(by rw [List.length_map]; exact hmv) = ((ds[k]).v[m]).1 := List.getElem_map ..
  have hv2 := hdo.vget m hmv
  have hp := hds.pol k hkd
  have hvl2 : ((ds[k]).v[m]).2.length = 1 := by rw [hv2]; rfl
  have hvi : ((ds[k]).v[m]).2[0]'(by omega) = valW (pol polys (k + 1)) (m + 1) := by simp only [hv2, hp]; rfl
  rw [hk] at htk
  generalize valW (pol polys (k + 1)) (m + 1) = vw at *
  have hrd : ∀ w L, Sat E w L → L[2]? = some (stars (ds.map dlA)) → Sat E w [slc tPs true ds[k].C (ds[k].c.map (·.1)), stars (ds[k].c.map rowP), slc tNs true ds[k].V (ds[k].v.map (·.1)), stars (ds[k].v.map rowN)] := fun w L h hi => h.dl 2 hi k hkd
  refine Xaz ?_
  refine Lq (Q_ixAt 3 i rfl rfl rfl rfl h rfl) ?_
  refine Lq (Q_ldEAt 3 i 0 (v := .int .i64 ((k + 1 : Nat) : Int)) rfl rfl rfl rfl h (by decide) (by rw [hk]; rfl)) ?_
  refine XT ?_
  refine L_o rfl rfl rfl (O_call [1] [0,2,3,4] hof rfl rfl ?_)
  rintro _ _ ⟨rfl, rfl⟩
  refine Xc ?_
  refine Lq (Q_field rfl rfl) ?_
  refine Xbj ?_
  refine J.ent (Ent.re [1,0,2,3,4] rfl) ?_
  refine Xe ?_
  refine XcV ?_
  refine X7 ?_
  refine Lq ((Q_len (τ := tNs) (fun w h => (hrd w _ h rfl).rd 2 rfl) rfl).as (v' := .int .i64 (n : Int)) (by rw [List.length_map, hvl])) ?_
  refine XbE ?_
  refine Xf ?_
  refine Xat ?_
  refine Xp ?_
  refine Xf ?_
  refine Xf ?_
  refine Lq ((Q_sub rfl rfl (IntWalk.i64_in _ (by omega))).as (v' := .int .i64 (m : Int)) (congrArg (Value.int .i64) (by omega))) ?_
  refine Lq (Q_ix (τ := tNs) m (fun w h => (hrd w _ h rfl).rd 2 rfl) rfl rfl rfl (by rw [List.length_map]; exact hmv) rfl) ?_
  refine Lq (Q_ldE (τ := tNs) (v := ((ds[k]).v[m]).1.v) m 0 (fun w h => (hrd w _ h rfl).rd 2 rfl) rfl rfl rfl (by rw [List.length_map]; exact hmv) (by decide) (by rw [hg1]; rfl)) ?_
  refine Lq ((Q_len (τ := tNm) (fun w h => (hrd w _ h rfl).rdR 3 rfl m hmv) rfl).as (v' := .int .i64 1) (by rw [hvl2]; rfl)) ?_
  refine Xcz ?_
  refine Xan ?_
  refine Xl ?_
  refine XeA ?_
  refine Lq (Q_ix (τ := tNs) m (fun w h => (hrd w _ h rfl).rd 2 rfl) rfl rfl rfl (by rw [List.length_map]; exact hmv) rfl) ?_
  refine Lq (Q_ldE (τ := tNs) (v := ((ds[k]).v[m]).1.v) m 0 (fun w h => (hrd w _ h rfl).rd 2 rfl) rfl rfl rfl (by rw [List.length_map]; exact hmv) (by decide) (by rw [hg1]; rfl)) ?_
  refine Xd ?_
  refine Lq (Q_ix (τ := tNm) 0 (fun w h => (hrd w _ h rfl).rdR 3 rfl m hmv) rfl rfl rfl (by omega) rfl) ?_
  refine Lq (Q_ldEA (τ := tNm) (vs := vw.l) 0 0 (fun w h => (hrd w _ h rfl).rdR 3 rfl m hmv) rfl rfl rfl (by omega) (Nat.le_refl 4) (by rw [hvi]; rfl)) ?_
  refine L_o rfl rfl rfl (O_litP (τ := tNm) (m := 1) (sz := 4) [vw] rfl rfl rfl rfl rfl rfl (by decide) (fun U => ?_))
  refine Xc ?_
  refine L_o rfl rfl rfl (O_app (τ := tNm) 1 rfl (fun w h => h.rd 0 rfl) rfl rfl rfl rfl (by simp only [List.length_map, List.length_take, List.length_singleton]; omega) (by decide) (fun T' => ?_))
  refine Xc ?_
  refine Xj ?_
  refine XaS ?_
  exact loopQ_normal (i + 1, T') (by show i + 1 ≤ _; omega) (by show _ - (i + 1) < _ - i; omega) ⟨rfl, rfl, rfl, rfl, rfl, rfl, rfl, trivial⟩ (by dsimp only; rw [htk]; exact Ent.re [1,2,3,4,5] rfl)
 ·obtain rfl : i = ch.length := by omega
  rw [List.take_length]
  refine Xae ?_
  refine Xg ?_
  refine Xbz ?_
  exact retQ_ret _ [_, _, _, _] (.cons (RV_tmp rfl) (.cons (RV_tmp rfl) .nil)) ⟨T, rfl, rfl⟩ (Ent.refl _)
omit hn in
theorem keys_ok (hne : ch ≠ []) : Does Tryz.prog E 15 [D.v, CH.v] [slc tDl true D (ds.map hdD), stars (ds.map dlA), slc tN true CH ch] fun v L => ∃ T : SV, v = T.v ∧ L = [slc tPw true T [pw (kP (keyN polys ch) gP)], slc tDl true D (ds.map hdD), stars (ds.map dlA), slc tN true CH ch] := by
 have hlen : 0 < ch.length := List.length_pos_iff.2 hne
 have hnum : ∀ k (hk : k < ds.length), ∀ w L, Sat E w L → ∀ (i : Nat), L[i]? = some (stars (ds.map dlA)) → Sat E w [slc tPs true ds[k].C (ds[k].c.map (·.1)), stars (ds[k].c.map rowP), slc tNs true ds[k].V (ds[k].v.map (·.1)), stars (ds[k].v.map rowN)] := fun k hk w L h i hi => h.dl i hi k hk
 refine Does.of Tryz.func15 rfl Tryz.ntmps15 rfl rfl fun F => ?_
 refine XbB ?_
 refine XbN ?_
 refine XcB ?_
 refine Xy ?_
 refine J_seq ?_
 obtain ⟨a1, a2⟩ := hch _ (List.getElem_mem hlen)
 obtain ⟨k0, hk0⟩ : ∃ k, ch[0] = k + 1 := ⟨ch[0] - 1, by omega⟩
 have hkd0 : k0 < ds.length := by omega
 have hkm0 : k0 < (ds.map hdD).length := by rw [List.length_map]; exact hkd0
 have hof0 := of_ok E true D (ds.map hdD) (by rw [List.length_map]; exact hdl) k0 hkm0
 rw [List.getElem_map] at hof0
 have hcl0 := (hds.of k0 hkd0).clen
 refine Xl ?_
 refine Lq (Q_ixAt 2 0 rfl rfl rfl rfl hlen rfl) ?_
 refine Lq (Q_ldEAt 2 0 0 (v := .int .i64 ((k0 + 1 : Nat) : Int)) rfl rfl rfl rfl hlen (by decide) (by rw [hk0]; rfl)) ?_
 refine L_o rfl rfl rfl (O_call [0] [1,2,3] hof0 rfl rfl ?_)
 rintro _ _ ⟨rfl, rfl⟩
 refine Xc ?_
 refine Lq (Q_field rfl rfl) ?_
 refine Lq ((Q_len (τ := tPs) (fun w h => (hnum k0 hkd0 w _ h 1 rfl).rd 0 rfl) rfl).as (v' := .int .i64 ((1 : Nat) : Int)) (by rw [List.length_map, hcl0]; rfl)) ?_
 refine L_o rfl rfl rfl (O_mk (τ := tPw) 1 pwZ rfl rfl rfl rfl rfl rfl (by decide) (by decide) (fun T => ?_))
 refine Xbf ?_
 refine Lq ((Q_lenAt 0 rfl rfl).as (v' := .int .i64 1) rfl) ?_
 refine XJ ?_
 refine J_loop (fun e : Nat => e ≤ 1) (fun e => [(0, D.v), (1, CH.v), (5, T.v), (22, .int .i64 1), (23, .int .i64 (e : Int))]) (fun e => [slc tPw true T (kst (keyN polys ch) e), slc tDl true D (ds.map hdD), stars (ds.map dlA), slc tN true CH ch, F]) (fun e => 1 - e) 0 (Nat.zero_le _) ⟨rfl, rfl, rfl, rfl, rfl, trivial⟩ (Ent.refl _) ?_
 intro e he
 by_cases h1 : e < 1
 ·obtain rfl : e = 0 := by omega
  refine Xal ?_
  refine XT ?_
  refine Xk ?_
  refine XdB ?_
  refine L_s rfl rfl (O_stE 0 0 0 pw0 rfl rfl rfl rfl rfl rfl (tPw.one pw0) Nat.zero_lt_one (Nat.le_refl 9) (by rfl) ?_)
  refine Xbn ?_
  refine Lq (Q_lenAt 3 rfl rfl) ?_
  refine XJ ?_
  refine J_loop (fun j : Nat => j ≤ ch.length) (fun j => [(0, D.v), (1, CH.v), (5, T.v), (6, .int .i64 0), (22, .int .i64 1), (23, .int .i64 0), (30, CH.v), (31, .int .i64 (ch.length : Int)), (32, .int .i64 (j : Int))]) (fun j => [slc tPw true T [pw (kP (keyN polys (ch.take j)) gP)], slc tDl true D (ds.map hdD), stars (ds.map dlA), slc tN true CH ch, F]) (fun j => ch.length - j) 0 (Nat.zero_le _) ⟨rfl, rfl, rfl, rfl, rfl, rfl, rfl, rfl, rfl, trivial⟩ (by rw [show pw (kP (keyN polys (ch.take 0)) gP) = pw0 from pw_z]; exact Ent.refl _) ?_
  intro j hj
  by_cases h : j < ch.length
  ·obtain ⟨c1, c2⟩ := hch _ (List.getElem_mem h)
   have hkt := keyN_take polys ch j h
   obtain ⟨k, hk⟩ : ∃ k, ch[j] = k + 1 := ⟨ch[j] - 1, by omega⟩
   have hkd : k < ds.length := by omega
   have hkm : k < (ds.map hdD).length := by rw [List.length_map]; exact hkd
   have hof := of_ok E true D (ds.map hdD) (by rw [List.length_map]; exact hdl) k hkm
   rw [List.getElem_map] at hof
   have hdo := hds.of k hkd
   have hkp : k < polys.length := by rw [hds.len]; exact hkd
   have hdeg := hds.deg _ (List.getElem_mem hkp)
   have hccl := hdo.clen
   have h0c : 0 < (ds[k]).c.length := by rw [hccl]; exact Nat.zero_lt_one
   have hg1 : ((ds[k]).c.map (·.1))[0]'(by rw [List.length_map]; exact h0c) = ((ds[k]).c[0]).1 := List.getElem_map ..
   have hcv := hdo.cget 0 h0c Nat.zero_lt_one
   rw [List.getElem_cons_zero] at hcv
   have hcvl : ((ds[k]).c[0]).2.length = t + 1 := by rw [hcv, cmtL_len, hdeg]
   have hp := hds.pol k hkd
   have h00 : (polys[k]'hkp).getD 0 z4 = (polys[k]'hkp)[0]'(by rw [hdeg]; exact Nat.succ_pos _) := getD_eq _ _ _ _
   rw [hk, hp, h00] at hkt
   have hcg : ((ds[k]).c[0]).2[0]'(by rw [hcvl]; exact Nat.succ_pos _) = pw (kP ((polys[k]'hkp)[0]'(by rw [hdeg]; exact Nat.succ_pos _)).n gP) := by
    simp only [hcv, cmtL, List.getElem_map]
   generalize ((polys[k]'hkp)[0]'(by rw [hdeg]; exact Nat.succ_pos _)).n = c0 at *
   have hadd := padd_ok E (pw (kP (keyN polys (ch.take j)) gP)) (pw (kP c0 gP)) (pw_ok _) (pw_ok _) (by rw [own_pw]; exact noTwo _)
   rw [own_pw, own_pw, ← Ec.E.mul_add, ← hkt] at hadd
   have hrd := hnum k hkd
   generalize keyN polys (ch.take j) = N at *
   generalize hN' : keyN polys (ch.take (j + 1)) = N' at *
   refine Xaz ?_
   refine Lq (Q_ixAt 3 j rfl rfl rfl rfl h rfl) ?_
   refine Lq (Q_ldEAt 3 j 0 (v := .int .i64 ((k + 1 : Nat) : Int)) rfl rfl rfl rfl h (by decide) (by rw [hk]; rfl)) ?_
   refine XT ?_
   refine L_o rfl rfl rfl (O_call [1] [0,2,3,4] hof rfl rfl ?_)
   rintro _ _ ⟨rfl, rfl⟩
   refine Xc ?_
   refine Lq (Q_field rfl rfl) ?_
   refine Xn ?_
   refine J.ent (Ent.re [1,0,2,3,4] rfl) ?_
   refine Xl ?_
   refine Lq ((Q_len (τ := tPs) (fun w h => (hrd w _ h 2 rfl).rd 0 rfl) rfl).as (v' := .int .i64 1) (by rw [List.length_map, hccl]; rfl)) ?_
   refine XbV ?_
   refine X7 ?_
   refine Lq (Q_ix (τ := tPs) 0 (fun w h => (hrd w _ h 2 rfl).rd 0 rfl) rfl rfl rfl (by rw [List.length_map]; exact h0c) rfl) ?_
   refine Lq (Q_ldE (τ := tPs) (v := ((ds[k]).c[0]).1.v) 0 0 (fun w h => (hrd w _ h 2 rfl).rd 0 rfl) rfl rfl rfl (by rw [List.length_map]; exact h0c) (by decide) (by rw [hg1]; rfl)) ?_
   refine Lq ((Q_len (τ := tPw) (fun w h => (hrd w _ h 2 rfl).rdR 1 rfl 0 h0c) rfl).as (v' := .int .i64 ((t + 1 : Nat) : Int)) (by rw [hcvl])) ?_
   refine Lq ((Q_gtr rfl rfl).as (v' := .bool true) (congrArg Value.bool (decide_eq_true ((by omega))))) ?_
   refine XaD ?_
   refine Xm ?_
   refine DH [0,2] [0,1,2,3,4,5,6,7,8,9,10,11,13] (.quiet 0 (.quiet 1 (.quiet 2 (.quiet 3 (.quiet 4 (.quiet 5 (.quiet 6 (.quiet 7 (.quiet 8 (.quiet 9 (.quiet 10 (.quiet 11 (.loud 12 (.quiet 13 (.loud 14 .done))))))))))))))) Tryz.mixed ?_
   refine XaB ?_
   refine XaB ?_
   refine XaB ?_
   refine XaB ?_
   refine Sq (Ent.re [0,2] rfl) rfl (Q_ixAt 0 0 rfl rfl rfl rfl Nat.zero_lt_one rfl) ?_
   refine Sq (Ent.re [0,2] rfl) rfl (Q_ldEAAt 0 0 0 (vs := (pw (kP N gP)).l) rfl rfl rfl rfl Nat.zero_lt_one (Nat.le_refl 9) rfl) ?_
   refine XaB ?_
   refine XaB ?_
   refine Sq (Ent.re [0,2] rfl) rfl (Q_ix (τ := tPs) 0 (fun w h => (hrd w _ h 1 rfl).rd 0 rfl) rfl rfl rfl (by rw [List.length_map]; exact h0c) rfl) ?_
   refine Sq (Ent.re [0,2] rfl) rfl (Q_ldE (τ := tPs) (v := ((ds[k]).c[0]).1.v) 0 0 (fun w h => (hrd w _ h 1 rfl).rd 0 rfl) rfl rfl rfl (by rw [List.length_map]; exact h0c) (by decide) (by rw [hg1]; rfl)) ?_
   refine Sq (Ent.re [0,2] rfl) rfl (Q_ix (τ := tPw) 0 (fun w h => (hrd w _ h 1 rfl).rdR 1 rfl 0 h0c) rfl rfl rfl (by omega) rfl) ?_
   refine Sq (Ent.re [0,2] rfl) rfl (Q_ldEA (τ := tPw) (vs := (pw (kP c0 gP)).l) 0 0 (fun w h => (hrd w _ h 1 rfl).rdR 1 rfl 0 h0c) rfl rfl rfl (by omega) (Nat.le_refl 9) (by rw [hcg]; rfl)) ?_
   refine S_o rfl rfl rfl rfl (O_callP (hadd) rfl ⟨_, fun _ => ⟨Ent.reN [0,2] rfl, Ent.refl _⟩, ?_⟩)
   refine Xa ?_
   refine Sq (Ent.re [0,2] rfl) rfl (Q_ixAt 0 0 rfl rfl rfl rfl Nat.zero_lt_one rfl) ?_
   refine S_s rfl rfl rfl (O_stE 0 0 0 (pw (kP N' gP)) rfl rfl rfl rfl rfl rfl (tPw.one _) Nat.zero_lt_one (Nat.le_refl 9) (by rw [List.take_zero, List.nil_append, List.drop_of_length_le (by rw [tPw.len]; exact Nat.le_refl 9), List.append_nil]; rfl) ⟨[], free_no (by kernel_rfl), ?_⟩)
   refine Xaq ?_
   refine X8 ?_
   refine XbG ?_
   refine JL_nil ?_
   exact loopQ_normal (j + 1) (by omega) (by omega) ⟨rfl, rfl, rfl, rfl, rfl, rfl, rfl, rfl, rfl, trivial⟩ (by show Ent _ [slc tPw true T [pw (kP (keyN polys (ch.take (j + 1))) gP)], _, _, _, _]; rw [hN']; exact Ent.refl _)
  ·obtain rfl : j = ch.length := by omega
   rw [List.take_length]
   refine Xct ?_
   refine XbA ?_
   refine X8 ?_
   refine Xcg ?_
   exact loopQ_normal 1 (Nat.le_refl _) (by decide) ⟨rfl, rfl, rfl, rfl, rfl, trivial⟩ (Ent.refl _)
 ·obtain rfl : e = 1 := by omega
  refine Xbb ?_
  refine Xg ?_
  refine Xq ?_
  exact retQ_ret _ [_, _, _, _] (.cons (RV_tmp rfl) .nil) ⟨T, rfl, rfl⟩ (Ent.refl _)
end
end Go.Proofs
/- Maps. -/
set_option autoImplicit false
namespace Go.SL
/-- How a map's keys and values lie. -/
structure MTy (κ β : Type) where
 kt : Nat
 vt : Nat
 kd : TypeDesc
 kenc : κ → Value
 venc : β → Value
 same : ∀ [DecidableEq κ], ∀ a b, Instr.sameNow kd (kenc a) (kenc b) = some (decide (a = b))
 bits : ∀ a, Instr.sameBits 10000 (kenc a) (kenc a) = true
 plain : (∃ k, kd = .int k) ∨ kd = .string
section
variable {κ β : Type} [DecidableEq κ] (M : MTy κ β)
end
end Go.SL
/- The operations on maps. -/
set_option autoImplicit false
namespace Go.SL
section
variable {κ β : Type} [DecidableEq κ] {M : MTy κ β} {P : Program} {E : World} {n : Nat} {ρ : Env} {L : List HProp} {dst : Option Tmp} {ty : TypeId} {pos : String} {after : Array Edge} {g : Option (Nat × Bool)}
end
end Go.SL
/- Shares that are gathered: how they lie; copies of points, of shares. -/
set_option autoImplicit false
namespace Go.SL
theorem Q_slnil2 {P : Program} {E : World} {n : Nat} {ρ : Env} {L : List HProp} {dst : Option Tmp} {ty : TypeId} {pos : String} {after : Array Edge} {g : Option (Nat × Bool)} {t t' e : Nat} {x y : Operand} {S : SV} [u : TyU P t (.slice e)] (hx : ρ.ev x = some S.v) (hy : ρ.ev y = some (.slice none 0 0)) : QOp P E n ⟨dst, .binOp .eql t x y t', ty, pos, after, g⟩ ρ L (.bool S.a.isNone) := fun c w ha _ =>
 run_binOp c w ha hx hy (by simp [eqGuard]) (Lib.run_eql_slice_nil w t e S.a S.n S.c 0 0 u.h)
end Go.SL
namespace Go.Proofs
open Go.SL
abbrev anV : Option SV → Value
 | none => .nilIface
 | some S => .iface 67 S.v
/-- What is kept of a dealer: shares, or nothing yet. -/
def tAn : Ty (Option SV) := ⟨20, 1, fun p => [anV p], fun _ => rfl, by decide, fun a v hv => by simp at hv; subst hv; cases a <;> rfl⟩
instance : TyI Tryz.prog tAn.e 1 .nilIface 16 := inferInstanceAs (TyI Tryz.prog 20 1 .nilIface 16)
instance : TyU Tryz.prog 98 (.slice tAn.e) := inferInstanceAs (TyU Tryz.prog 98 (.slice 20))
abbrev ShL := List (Nat × W4)
/-- A gathering. -/
structure Ga where
 t : Nat
 C : SV
 c : List (SV × List Pw)
 K : SV
 k : List (SV × ShL)
def kpO (p : SV × ShL) : Option SV := match p.2 with
 | [] => none
 | _ :: _ => some p.1
abbrev rowS (p : SV × ShL) : HProp := slc tSh true p.1 p.2
def gaH (p : Nat) (g : Ga) : List HProp := [cel p [.int .i64 (g.t : Int), g.C.v, g.K.v] 100, slc tPs true g.C (g.c.map (·.1)), stars (g.c.map rowP), slc tAn true g.K (g.k.map kpO), stars (g.k.map rowS)]
def gaA (p : Nat) (g : Ga) : HProp := stars (gaH p g)
theorem Ent.ga_out (p : Nat) (g : Ga) {L : List HProp} : Ent (gaA p g :: L) (cel p [.int .i64 (g.t : Int), g.C.v, g.K.v] 100 :: slc tPs true g.C (g.c.map (·.1)) :: stars (g.c.map rowP) :: slc tAn true g.K (g.k.map kpO) :: stars (g.k.map rowS) :: L) := Ent.spread (R := gaH p g)
theorem Ent.ga_in (p : Nat) (g : Ga) {L : List HProp} : Ent (cel p [.int .i64 (g.t : Int), g.C.v, g.K.v] 100 :: slc tPs true g.C (g.c.map (·.1)) :: stars (g.c.map rowP) :: slc tAn true g.K (g.k.map kpO) :: stars (g.k.map rowS) :: L) (gaA p g :: L) := Ent.gather (R := gaH p g)
attribute [local irreducible] J JL QOp JOp seqQ blockQ loopQ retQ slc cel hex star pur stars Does RV Ent pAt scopeQ JR seqR endR JLI DoesY
theorem pwclone (E : World) (C : HProp) (U : SV) (m : List Pw) (hC : ∀ w L, Sat E w (C :: L) → Rd tPw w U m) (hl : m.length ≤ 100000000) : Does Tryz.prog E 44 [U.v] [C] fun v L => ∃ V : SV, v = V.v ∧ L = [C, slc tPw true V m] := by
 refine Does.of Tryz.func44 rfl Tryz.ntmps44 rfl rfl fun F => ?_
 refine J.norm ?_
 refine J.have (p := U.n = m.length ∧ U.n ≤ U.c ∧ ((U.a = none ∧ U.c = 0) ∨ ∃ a, U.a = some a)) (fun w hs => ⟨(hC w _ hs).1, (hC w _ hs).2.1, (hC w _ hs).2.2.imp id fun ⟨a, h, _⟩ => ⟨a, h⟩⟩) fun ⟨hn, hc, ha⟩ => ?_
 refine Sr ?_
 refine Xbj ?_
 cases h : U.a with
 | none =>
  have h0 : m = [] := List.eq_nil_of_length_eq_zero (by
   rcases ha with ⟨_, h0⟩ | ⟨a, h1⟩
   ·omega
   ·rw [h] at h1; cases h1)
  subst h0
  refine Xe ?_
  refine Lq ((Q_slnil2 (S := U) rfl rfl).as (v' := .bool true) (by rw [h]; rfl)) ?_
  refine Xm ?_
  refine XbK ?_
  refine retQ_ret _ [C, slc tPw true SV.nil []] (.cons (RV_tmp rfl) .nil) ⟨SV.nil, rfl, rfl⟩ ?_
  exact (Ent.mk fun _ _ h => (h.lay_nil tPw true : Sat _ _ (slc tPw true SV.nil [] :: _))).trans (Ent.re [1,0,2] rfl)
 | some a =>
  refine Xe ?_
  refine Lq ((Q_slnil2 (S := U) rfl rfl).as (v' := .bool false) (by rw [h]; rfl)) ?_
  refine Xy ?_
  refine Sr ?_
  refine L_o rfl rfl rfl (O_litP (τ := tPw) (m := 0) (sz := 9) [] rfl rfl rfl rfl rfl rfl (by decide) (fun V => ?_))
  refine XaO ?_
  refine L_o rfl rfl rfl (O_app (τ := tPw) 0 rfl (fun w h => hC w _ ((h.pick [1] rfl) : Sat E w (pick [1] _))) rfl rfl rfl rfl (by simp; omega) (by decide) (fun W => ?_))
  refine Xaa ?_
  exact retQ_ret _ [C, slc tPw true W m] (.cons (RV_tmp rfl) .nil) ⟨W, rfl, rfl⟩ (Ent.re [1,0,2] rfl)
theorem shclone (E : World) (C : HProp) (U : SV) (m : ShL) (hC : ∀ w L, Sat E w (C :: L) → Rd tSh w U m) (hl : m.length ≤ 100000000) : Does Tryz.prog E 70 [U.v] [C] fun v L => ∃ V : SV, v = V.v ∧ L = [C, slc tSh true V m] := by
 refine Does.of Tryz.func70 rfl Tryz.ntmps70 rfl rfl fun F => ?_
 refine J.norm ?_
 refine J.have (p := U.n = m.length ∧ U.n ≤ U.c ∧ ((U.a = none ∧ U.c = 0) ∨ ∃ a, U.a = some a)) (fun w hs => ⟨(hC w _ hs).1, (hC w _ hs).2.1, (hC w _ hs).2.2.imp id fun ⟨a, h, _⟩ => ⟨a, h⟩⟩) fun ⟨hn, hc, ha⟩ => ?_
 refine Sr ?_
 refine Xbj ?_
 cases h : U.a with
 | none =>
  have h0 : m = [] := List.eq_nil_of_length_eq_zero (by
   rcases ha with ⟨_, h0⟩ | ⟨a, h1⟩
   ·omega
   ·rw [h] at h1; cases h1)
  subst h0
  refine Xe ?_
  refine Lq ((Q_slnil2 (S := U) rfl rfl).as (v' := .bool true) (by rw [h]; rfl)) ?_
  refine Xm ?_
  refine XbK ?_
  refine retQ_ret _ [C, slc tSh true SV.nil []] (.cons (RV_tmp rfl) .nil) ⟨SV.nil, rfl, rfl⟩ ?_
  exact (Ent.mk fun _ _ h => (h.lay_nil tSh true : Sat _ _ (slc tSh true SV.nil [] :: _))).trans (Ent.re [1,0,2] rfl)
 | some a =>
  refine Xe ?_
  refine Lq ((Q_slnil2 (S := U) rfl rfl).as (v' := .bool false) (by rw [h]; rfl)) ?_
  refine Xy ?_
  refine Sr ?_
  refine L_o rfl rfl rfl (O_litP (τ := tSh) (m := 0) (sz := 5) [] rfl rfl rfl rfl rfl rfl (by decide) (fun V => ?_))
  refine XaO ?_
  refine L_o rfl rfl rfl (O_app (τ := tSh) 0 rfl (fun w h => hC w _ ((h.pick [1] rfl) : Sat E w (pick [1] _))) rfl rfl rfl rfl (by simp; omega) (by decide) (fun W => ?_))
  refine Xaa ?_
  exact retQ_ret _ [C, slc tSh true W m] (.cons (RV_tmp rfl) .nil) ⟨W, rfl, rfl⟩ (Ent.re [1,0,2] rfl)
end Go.Proofs
