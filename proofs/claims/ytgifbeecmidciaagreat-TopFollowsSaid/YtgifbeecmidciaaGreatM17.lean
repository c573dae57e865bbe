/- Part 17 of the texts below the row: Ch3, Sl24, Sl15, Ref36, Ref36b, Next, Read, Kv1, Kv2, Seg7, Seg8, Seg9, DiskQ. -/
import Derived.ChangeKeysEq
import Derived.Test.YtgifbeecmidciaaGreatM16
/- A chain of one node: a word taken, and what is decided behind it. -/
set_option autoImplicit false
namespace Go.Proofs
open Go.SL Go.Proofs.Bt
attribute [local irreducible] J JL QOp JOp seqQ blockQ loopQ retQ slc cel hex star pur stars Does RV Ent pAt scopeQ
attribute [local irreducible] votA agL zer63 bz122
section
variable (E : World) (p pa pv b2 b4 : Nat) (Sl Sw So : SV) (log wants : List Ky) (out : List (Nat × Wd)) (A : Ag)
theorem cwordC_F (bg : Bool) (m : Value) (hd : A.done = false) : DoesD Tryz.prog E 81 [.pointer (some ⟨b2, 0, none⟩), .pointer (some ⟨b4, 0, none⟩)] [cel b2 [.pointer (some ⟨p, 0, none⟩)] 27, cel b4 [So.v] 29, slc tTa true So out, chC p bg (.pointer (some ⟨pa, 0, none⟩)) Sl.v Sw.v, agC pa A pv m]
 fun r L => r = .tuple #[] ∧ L = [cel b2 [.pointer (some ⟨p, 0, none⟩)] 27, cel b4 [So.v] 29, slc tTa true So out, chC p bg (.pointer (some ⟨pa, 0, none⟩)) Sl.v Sw.v, agC pa A pv m] := by
 have hde := adecided_ok E pa pv A m
 rw [hd] at hde
 refine DoesD.of Tryz.func81 rfl Tryz.ntmps81 rfl rfl fun F => ?_
 refine J.norm ?_
 refine Sr ?_
 refine Lq (Q_ld 0 rfl rfl rfl rfl) ?_
 refine Lq (Q_nilCheck rfl) ?_
 refine Lq (Q_fa0 rfl) ?_
 refine Lq (Q_ld 3 rfl rfl rfl rfl) ?_
 refine L_o rfl rfl rfl (O_call [4] [0,1,2,3,5] hde rfl rfl ?_)
 rintro _ _ ⟨rfl, rfl⟩
 refine JL.norm ?_
 refine Lq (Q_move rfl) ?_
 refine Lq (Q_extract (v := str A.dec) rfl rfl) ?_
 refine Lq (Q_extract (v := .bool false) rfl rfl) ?_
 refine Lq (Q_assign rfl) ?_
 refine Lq (Q_assign rfl) ?_
 refine Ln ?_
 refine Sr ?_
 refine Lq (Q_move rfl) ?_
 refine Ln ?_
 refine J_condF rfl ?_
 refine J_skip ?_
 exact retQ_normal [] [cel b2 [.pointer (some ⟨p, 0, none⟩)] 27, cel b4 [So.v] 29, slc tTa true So out, chC p bg (.pointer (some ⟨pa, 0, none⟩)) Sl.v Sw.v, agC pa A pv m] .nil ⟨rfl, rfl⟩ (Ent.re [1,2,3,4,0,5] rfl)
theorem cwordC_T (bg : Bool) (m : Value) (v : Ky) (hd : A.done = true) (hv : A.dec = v) (hl : log.length < 63) (hw : ∀ v ∈ wants, mayV v = true) (hwl : wants.length ≤ 8) (ho : out.length ≤ 1000) : DoesD Tryz.prog E 81 [.pointer (some ⟨b2, 0, none⟩), .pointer (some ⟨b4, 0, none⟩)] [cel b2 [.pointer (some ⟨p, 0, none⟩)] 27, cel b4 [So.v] 29, slc tTa true So out, chC p bg (.pointer (some ⟨pa, 0, none⟩)) Sl.v Sw.v, agC pa A pv m, slc tS true Sl log, slc tS true Sw wants]
 fun r L => ∃ (pa' pv' : Nat) (Tl Tw To : SV), r = .tuple #[] ∧ L = [cel b4 [To.v] 29, slc tTa true To (out ++ [((log ++ [v]).length, prop0 (ownOf (delW wants v)))]), chC p bg (.pointer (some ⟨pa', 0, none⟩)) Tl.v Tw.v, agC pa' (ag1 (log ++ [v]).length (ownOf (delW wants v))) pv' .nilFunc, votA pv' [], slc tS true Tl (log ++ [v]), slc tS true Tw (delW wants v)] := by
 have hde := adecided_ok E pa pv A m
 rw [hd, hv] at hde
 have hdc := cdecided_ok E p Sl Sw log wants bg (.pointer (some ⟨pa, 0, none⟩)) v hl hw hwl
 refine DoesD.of Tryz.func81 rfl Tryz.ntmps81 rfl rfl fun F => ?_
 refine J.norm ?_
 refine Sr ?_
 refine Lq (Q_ld 0 rfl rfl rfl rfl) ?_
 refine Lq (Q_nilCheck rfl) ?_
 refine Lq (Q_fa0 rfl) ?_
 refine Lq (Q_ld 3 rfl rfl rfl rfl) ?_
 refine L_o rfl rfl rfl (O_call [4] [0,1,2,3,5,6,7] hde rfl rfl ?_)
 rintro _ _ ⟨rfl, rfl⟩
 refine JL.norm ?_
 refine Lq (Q_move rfl) ?_
 refine Lq (Q_extract (v := str v) rfl rfl) ?_
 refine Lq (Q_extract (v := .bool true) rfl rfl) ?_
 refine Lq (Q_assign rfl) ?_
 refine Lq (Q_assign rfl) ?_
 refine Ln ?_
 refine Sr ?_
 refine Lq (Q_move rfl) ?_
 refine Ln ?_
 refine J_condT rfl ?_
 refine DH [1,2] [0,1,2] (.quiet 0 (.quiet 1 (.quiet 2 (.loud 3 (.loud 4 (.loud 5 .done)))))) Tryz.mixed ?_
 refine Sq (Ent.re [1,2] rfl) rfl (Q_ld 1 rfl rfl rfl rfl) ?_
 refine Sq (Ent.re [1,2] rfl) rfl (Q_ld 0 rfl rfl rfl rfl) ?_
 refine Sq (Ent.re [1,2] rfl) rfl (Q_move rfl) ?_
 refine S_o rfl rfl rfl rfl (O_call [4,5,6] [0,1,2,3,7] hdc rfl rfl ?_)
 (rintro _ _ ⟨pa', pv', Tl, Tw, T, rfl, rfl⟩; refine ⟨_, fun _ => ⟨Ent.reN [7,8] rfl, Ent.refl _⟩, ?_⟩)
 refine JS.norm ?_
 refine S_o rfl rfl rfl rfl (O_app (τ := tTa) 9 rfl (fun w h => h.rd 5 rfl) rfl rfl rfl rfl (by simp only [List.length_singleton]; omega) (by decide) (fun To => ⟨_, fun _ => ⟨Ent.reN [7,8] rfl, Ent.refl _⟩, ?_⟩))
 refine JS.norm ?_
 refine S_s rfl rfl rfl (O_st1 8 rfl rfl rfl rfl rfl ⟨[], free_no (by kernel_rfl), ?_⟩)
 refine JS.norm ?_
 refine S_nil ?_
 exact retQ_normal [] [cel b4 [To.v] 29, slc tTa true To (out ++ [((log ++ [v]).length, prop0 (ownOf (delW wants v)))]), chC p bg (.pointer (some ⟨pa', 0, none⟩)) Tl.v Tw.v, agC pa' (ag1 (log ++ [v]).length (ownOf (delW wants v))) pv' .nilFunc, votA pv' [], slc tS true Tl (log ++ [v]), slc tS true Tw (delW wants v)] .nil ⟨pa', pv', Tl, Tw, To, rfl, rfl⟩ (Ent.re [8,9,0,3,4,1,2,10] rfl)
end
section
variable (E : World) (p pa pv : Nat) (Sl Sw : SV) (log wants : List Ky) (w : Wd) (A A2 : Ag) (l l1 : List Wd) (o : List Wd)
theorem cwordF_ok (hl : log.length < 64) (hol : o.length ≤ 1000) (htake : Does Tryz.prog E 83 [.pointer (some ⟨pa, 0, none⟩), .agg (wdV w).toArray] [agC pa A pv .nilFunc, votA pv l] fun r L => ∃ S : SV, r = S.v ∧ L = [agC pa A2 pv .nilFunc, slc tWd true S o, votA pv l1]) (hd : A2.done = false) :
 Does Tryz.prog E 56 [.pointer (some ⟨p, 0, none⟩), .agg (wdV w).toArray] [chC p true (.pointer (some ⟨pa, 0, none⟩)) Sl.v Sw.v, slc tS true Sl log, agC pa A pv .nilFunc, votA pv l] fun r L => ∃ T : SV, r = T.v ∧ L = [chC p true (.pointer (some ⟨pa, 0, none⟩)) Sl.v Sw.v, slc tS true Sl log, agC pa A2 pv .nilFunc, votA pv l1, slc tTa true T (o.map fun w => (log.length, w))] := by
 have hov := cover_ok E p Sl log true (.pointer (some ⟨pa, 0, none⟩)) Sw.v hl
 have hta := fun S => ctalls_ok E p Sl log true (.pointer (some ⟨pa, 0, none⟩)) Sw.v S o hol
 have hdf := fun b2 b4 So => cwordC_F E p pa pv b2 b4 Sl Sw So (o.map fun w => (log.length, w)) A2 true .nilFunc hd
 refine Does.deferred Tryz.func56 rfl Tryz.ntmps56 rfl fun F => ?_
 refine JW.norm ?_
 refine JW_seq ?_
 refine J_region ?_
 refine L_o rfl rfl rfl (O_box rfl fun b2 => ?_)
 refine L_o rfl rfl rfl (O_box rfl fun b3 => ?_)
 refine L_o rfl rfl rfl (O_alloc fun b4 => ?_)
 refine JL_nil ?_
 refine ⟨rfl, ?_⟩
 refine JW_seq ?_
 refine Sr ?_
 refine Lq (Q_ld 2 rfl rfl rfl rfl) ?_
 refine Lq (Q_nilCheck rfl) ?_
 refine Lq (Q_fa0 rfl) ?_
 refine Lq (Q_ld 3 rfl rfl rfl rfl) ?_
 refine Lq ((Q_not rfl).as (v' := .bool false) rfl) ?_
 refine Lq (Q_move rfl) ?_
 refine Lq (Q_ld 2 rfl rfl rfl rfl) ?_
 refine L_o rfl rfl rfl (O_call [3,4] [0,1,2,5,6,7] hov rfl rfl ?_)
 rintro _ _ ⟨rfl, rfl⟩
 refine JL.norm ?_
 refine Lq (Q_pickF rfl rfl) ?_
 refine Ln ?_
 refine J_condF rfl ?_
 refine J_skip ?_
 refine ⟨rfl, ?_⟩
 refine JW_defer (ys := [.tmp 2, .tmp 4]) rfl rfl ?_
 refine JWL_draw [0,3,4] [0,1,2,3,4,5] (.quiet 0 (.quiet 1 (.quiet 2 (.quiet 3 (.quiet 4 (.quiet 5 (.loud 6 (.loud 7 (.loud 8 .done))))))))) Tryz.mixed (by kernel_rfl) (by kernel_rfl) (by repeat (first | exact retQ_noP | refine seqQ_noP ?_ | refine blockQ_noP ?_ | refine loopQ_noP ?_ | refine scopeQ_noP ?_ | (intro _ _ _ h; cases h.1))) ?_
 refine Sq (Ent.re [0,3,4] rfl) rfl (Q_ld 2 rfl rfl rfl rfl) ?_
 refine Sq (Ent.re [0,3,4] rfl) rfl (Q_ld 2 rfl rfl rfl rfl) ?_
 refine Sq (Ent.re [0,3,4] rfl) rfl (Q_nilCheck rfl) ?_
 refine Sq (Ent.re [0,3,4] rfl) rfl (Q_fa0 rfl) ?_
 refine Sq (Ent.re [0,3,4] rfl) rfl (Q_ld 0 rfl rfl rfl rfl) ?_
 refine Sq (Ent.re [0,3,4] rfl) rfl (Q_ldA 1 rfl rfl rfl) ?_
 refine S_o rfl rfl rfl rfl (O_call [5,6] [0,1,2,3,4,7] htake rfl rfl ?_)
 (rintro _ _ ⟨S, rfl, rfl⟩; refine ⟨_, fun _ => ⟨Ent.reN [3,6,7] rfl, Ent.refl _⟩, ?_⟩)
 refine JS.norm ?_
 refine S_o rfl rfl rfl rfl (O_call [3,4,1] [0,2,5,6,7,8] (hta S) rfl rfl ?_)
 (rintro _ _ ⟨T, rfl, rfl⟩; refine ⟨_, fun _ => ⟨Ent.reN [0,7,8] rfl, Ent.refl _⟩, ?_⟩)
 refine JS.norm ?_
 refine S_s rfl rfl rfl (O_st1 6 rfl rfl rfl rfl rfl ⟨[], free_no (by kernel_rfl), ?_⟩)
 refine JS.norm ?_
 refine S_nil ?_
 refine ⟨rfl, ?_⟩
 refine JWL_ret [8,6,3,0,4] [1,2,5,7,9] rfl (hdf b2 b4 T) rfl ?_
 rintro v1 L1 ⟨rfl, rfl⟩
 exact ⟨_, [chC p true (.pointer (some ⟨pa, 0, none⟩)) Sl.v Sw.v, slc tS true Sl log, agC pa A2 pv .nilFunc, votA pv l1, slc tTa true T (o.map fun w => (log.length, w))], .cons (RV_cell1 1 rfl rfl rfl rfl) .nil, ⟨T, rfl, rfl⟩, Ent.pick [3,5,4,7,2,9] _ rfl⟩
theorem cwordT_ok (v : Ky) (hl : log.length < 63) (hol : o.length ≤ 1000) (hw : ∀ v ∈ wants, mayV v = true) (hwl : wants.length ≤ 8) (htake : Does Tryz.prog E 83 [.pointer (some ⟨pa, 0, none⟩), .agg (wdV w).toArray] [agC pa A pv .nilFunc, votA pv l] fun r L => ∃ S : SV, r = S.v ∧ L = [agC pa A2 pv .nilFunc, slc tWd true S o, votA pv l1]) (hd : A2.done = true) (hv : A2.dec = v) :
 Does Tryz.prog E 56 [.pointer (some ⟨p, 0, none⟩), .agg (wdV w).toArray] [chC p true (.pointer (some ⟨pa, 0, none⟩)) Sl.v Sw.v, slc tS true Sl log, agC pa A pv .nilFunc, votA pv l, slc tS true Sw wants] fun r L => ∃ (pa' pv' : Nat) (Tl Tw T : SV), r = T.v ∧ L = [chC p true (.pointer (some ⟨pa', 0, none⟩)) Tl.v Tw.v, slc tS true Tl (log ++ [v]), agC pa' (ag1 (log ++ [v]).length (ownOf (delW wants v))) pv' .nilFunc, votA pv' [], slc tS true Tw (delW wants v), slc tTa true T (o.map (fun w => (log.length, w)) ++ [((log ++ [v]).length, prop0 (ownOf (delW wants v)))])] := by
 have hov := cover_ok E p Sl log true (.pointer (some ⟨pa, 0, none⟩)) Sw.v (by omega)
 have hta := fun S => ctalls_ok E p Sl log true (.pointer (some ⟨pa, 0, none⟩)) Sw.v S o hol
 have hdf := fun b2 b4 So => cwordC_T E p pa pv b2 b4 Sl Sw So log wants (o.map fun w => (log.length, w)) A2 true .nilFunc v hd hv hl hw hwl (by simpa using hol)
 refine Does.deferred Tryz.func56 rfl Tryz.ntmps56 rfl fun F => ?_
 refine JW.norm ?_
 refine JW_seq ?_
 refine J_region ?_
 refine L_o rfl rfl rfl (O_box rfl fun b2 => ?_)
 refine L_o rfl rfl rfl (O_box rfl fun b3 => ?_)
 refine L_o rfl rfl rfl (O_alloc fun b4 => ?_)
 refine JL_nil ?_
 refine ⟨rfl, ?_⟩
 refine JW_seq ?_
 refine Sr ?_
 refine Lq (Q_ld 2 rfl rfl rfl rfl) ?_
 refine Lq (Q_nilCheck rfl) ?_
 refine Lq (Q_fa0 rfl) ?_
 refine Lq (Q_ld 3 rfl rfl rfl rfl) ?_
 refine Lq ((Q_not rfl).as (v' := .bool false) rfl) ?_
 refine Lq (Q_move rfl) ?_
 refine Lq (Q_ld 2 rfl rfl rfl rfl) ?_
 refine L_o rfl rfl rfl (O_call [3,4] [0,1,2,5,6,7,8] hov rfl rfl ?_)
 rintro _ _ ⟨rfl, rfl⟩
 refine JL.norm ?_
 refine Lq (Q_pickF rfl rfl) ?_
 refine Ln ?_
 refine J_condF rfl ?_
 refine J_skip ?_
 refine ⟨rfl, ?_⟩
 refine JW_defer (ys := [.tmp 2, .tmp 4]) rfl rfl ?_
 refine JWL_draw [0,3,4] [0,1,2,3,4,5] (.quiet 0 (.quiet 1 (.quiet 2 (.quiet 3 (.quiet 4 (.quiet 5 (.loud 6 (.loud 7 (.loud 8 .done))))))))) Tryz.mixed (by kernel_rfl) (by kernel_rfl) (by repeat (first | exact retQ_noP | refine seqQ_noP ?_ | refine blockQ_noP ?_ | refine loopQ_noP ?_ | refine scopeQ_noP ?_ | (intro _ _ _ h; cases h.1))) ?_
 refine Sq (Ent.re [0,3,4] rfl) rfl (Q_ld 2 rfl rfl rfl rfl) ?_
 refine Sq (Ent.re [0,3,4] rfl) rfl (Q_ld 2 rfl rfl rfl rfl) ?_
 refine Sq (Ent.re [0,3,4] rfl) rfl (Q_nilCheck rfl) ?_
 refine Sq (Ent.re [0,3,4] rfl) rfl (Q_fa0 rfl) ?_
 refine Sq (Ent.re [0,3,4] rfl) rfl (Q_ld 0 rfl rfl rfl rfl) ?_
 refine Sq (Ent.re [0,3,4] rfl) rfl (Q_ldA 1 rfl rfl rfl) ?_
 refine S_o rfl rfl rfl rfl (O_call [5,6] [0,1,2,3,4,7,8] htake rfl rfl ?_)
 (rintro _ _ ⟨S, rfl, rfl⟩; refine ⟨_, fun _ => ⟨Ent.reN [3,6,7] rfl, Ent.refl _⟩, ?_⟩)
 refine JS.norm ?_
 refine S_o rfl rfl rfl rfl (O_call [3,4,1] [0,2,5,6,7,8,9] (hta S) rfl rfl ?_)
 (rintro _ _ ⟨T, rfl, rfl⟩; refine ⟨_, fun _ => ⟨Ent.reN [0,7,8] rfl, Ent.refl _⟩, ?_⟩)
 refine JS.norm ?_
 refine S_s rfl rfl rfl (O_st1 6 rfl rfl rfl rfl rfl ⟨[], free_no (by kernel_rfl), ?_⟩)
 refine JS.norm ?_
 refine S_nil ?_
 refine ⟨rfl, ?_⟩
 refine JWL_ret [8,6,3,0,4,1,9] [2,5,7,10] rfl (hdf b2 b4 T) rfl ?_
 rintro v1 L1 ⟨pa', pv', Tl, Tw, To, rfl, rfl⟩
 exact ⟨_, [chC p true (.pointer (some ⟨pa', 0, none⟩)) Tl.v Tw.v, slc tS true Tl (log ++ [v]), agC pa' (ag1 (log ++ [v]).length (ownOf (delW wants v))) pv' .nilFunc, votA pv' [], slc tS true Tw (delW wants v), slc tTa true To (o.map (fun w => (log.length, w)) ++ [((log ++ [v]).length, prop0 (ownOf (delW wants v)))])], .cons (RV_cell1 0 rfl rfl rfl rfl) .nil, ⟨pa', pv', Tl, Tw, To, rfl, rfl⟩, Ent.pick [2,5,3,4,6,1,10] _ rfl⟩
end
end Go.Proofs
/- Interface values: made, their methods called. -/
set_option autoImplicit false
namespace Go.SL
/-- A struct type's own method, by value. -/
structure MetFn (P : Program) (t : Nat) (name : String) (f : Nat) : Prop where
 m : ((P.info? t).bind fun i => (i.methods.find? (·.name == name)).map fun m => (m.path.toList, m.func)) = some ([], some (f, false))
 u : (match P.underlying t with | some (.struct _) => true | _ => false) = true
theorem MetFn.un {P : Program} {t f : Nat} {name : String} (h : MetFn P t name f) : ∃ fs, P.underlying t = some (.struct fs) := by
 have := h.u
 split at this
 ·rename_i fs e; exact ⟨fs, e⟩
 ·cases this
theorem MetFn.get {P : Program} {t f : Nat} {name : String} (h : MetFn P t name f) : ∃ i m, P.info? t = some i ∧ i.methods.find? (·.name == name) = some m ∧ m.path.toList = [] ∧ m.func = some (f, false) := by
 have := h.m
 cases e : P.info? t with
 | none => rw [e] at this; cases this
 | some i =>
  rw [e] at this
  simp only [Option.bind_some] at this
  cases e2 : i.methods.find? (·.name == name) with
  | none => rw [e2] at this; cases this
  | some m =>
   rw [e2] at this
   simp only [Option.map_some, Option.some.injEq, Prod.mk.injEq] at this
   exact ⟨i, m, rfl, e2, this.1, this.2⟩
theorem run_method {P : Program} {t f : Nat} {name : String} (h : MetFn P t name f) (k : Nat) (v : Value) (w : World) : (method (k + 1) t v name).run P w = .ok (f, v) w := by
 obtain ⟨i, m, h1, h2, h3, h4⟩ := h.get
 obtain ⟨fs, h5⟩ := h.un
 unfold method
 simp only [Sem.run_bind, run_typeInfo w h1, Result.andThen_ok, h2, h3, h4, follow, Sem.run_pure, receiverAt, run_underlying h5, Place.get]
theorem run_nilAhead {P : Program} {t f : Nat} {name : String} (h : MetFn P t name f) (k : Nat) (v : Value) (w : World) : (nilAhead (k + 1) t v name).run P w = .ok (some false) w := by
 obtain ⟨i, m, h1, h2, h3, h4⟩ := h.get
 obtain ⟨fs, h5⟩ := h.un
 unfold nilAhead
 simp only [Sem.run_bind, run_typeInfo w h1, Result.andThen_ok, h2, h3, h4, followBlind, Sem.run_pure, run_underlying h5]
section
variable {P : Program} {E : World} {n : Nat} {ρ : Env} {L : List HProp} {dst : Option Tmp} {ty : TypeId} {pos : String} {after : Array Edge} {g : Option (Nat × Bool)}
theorem Q_nilMeth {t f : Nat} {name : String} {x : Operand} {v : Value} {cs : Array Value} (h : MetFn P t name f) (hx : ρ.ev x = some (.func (.method name) #[.iface t v] cs)) : QOp P E n ⟨dst, .nilCheck x, ty, pos, after, g⟩ ρ L (.func (.method name) #[.iface t v] cs) := fun a w ha _ => by
 have h1 := run_nilAhead h (P.types.size + Made.depth - 1) v w
 have h2 : P.types.size + Made.depth - 1 + 1 = P.types.size + Made.depth := by unfold Made.depth; omega
 rw [h2] at h1
 simp only [execOp, ha.ev hx]
 simp only [List.getElem?_toArray, List.getElem?_cons_zero]
 simp [Sem.run_bind, h1, run_program]
/-- A method of an interface value called. -/
theorem O_invoke {t f : Nat} {name : String} {x : Operand} {xs : List Operand} {ts : Array TypeId} {v : Value} {vs : List Value} {K K' : Value → List HProp → Prop} {pre R : List HProp} (idx ridx : List Nat) [hf : HasFn P f] (hm : MetFn P t name f) (hxf : ρ.ev x = some (.iface t v)) (hx : ρ.evs xs = some vs)
 (hc : Does P E f (v :: vs) pre K')
 (hi : okIdx L.length (idx ++ ridx) = true) [hp : NormL (pick idx L) pre] [hR : NormL (pick ridx L) R]
 (hK : ∀ v L', K' v L' → K v (L' ++ R)) : JOp P E n ⟨dst, .call ⟨.invoke x name, xs.toArray, ts⟩, ty, pos, after, g⟩ K ρ L := fun a w ha hs next Q hn => by
 have h1 : Sat E w (pre ++ R) := by
  rw [← hp.h, ← hR.h]
  have := hs.pick _ hi
  rw [SL.pick, List.map_append] at this
  exact this
 have h2 := hc (stars R) w h1.fold
 unfold Oper.wp
 simp only [execOp, resolve]
 have e1 : (xs.toArray.map a.eval) = vs.toArray := by simp [← ha.evs hx]
 have e3 := run_method hm (P.types.size + Made.depth - 1) v w
 have e4 : P.types.size + Made.depth - 1 + 1 = P.types.size + Made.depth := by unfold Made.depth; omega
 rw [e4] at e3
 have e5 : (#[Value.iface t v] ++ vs.toArray)[0]? = some (.iface t v) := by simp
 have e6 : (#[Value.iface t v] ++ vs.toArray).extract 1 (#[Value.iface t v] ++ vs.toArray).size = vs.toArray := by simp
 have e7 : (#[v] ++ vs.toArray) = (v :: vs).toArray := by simp
 simp only [e1, ha.ev hxf, run_bind_pure, invoke, e5, e6, callMethod]
 have e8 : ((do let (f, receiver) ← method ((← program).types.size + Made.depth) t v name; callFunc f (#[receiver] ++ vs.toArray) : Sem Next)).run P w = .ok (.enter f (v :: vs).toArray) w := by
  simp only [Sem.run_bind, run_program, Result.andThen_ok, e3, run_callFunc hf, e7]
 rw [e8]
 simp only [Oper.upon_enter]
 refine h2.mono ?_
 rintro e w' ⟨v, L', rfl, hk, hs'⟩
 exact hn v _ w' (hK v L' hk) hs'.unfold
end
end Go.SL
/- Structs compared. -/
set_option autoImplicit false
namespace Go.SL
section
variable {P : Program} {d t : Nat} {xs ys : Array Value}
inductive EqF (P : Program) (d : Nat) (xs ys : Array Value) : List (Nat × Nat) → Bool → Prop
 | nil : EqF P d xs ys [] true
 | cons {ty off : Nat} {fs : List (Nat × Nat)} {r' : Bool} (a b : Value) {d' : TypeDesc} {r : Bool} (u : P.underlying ty = some d') (hd : isAggD d' = false) (ha : xs[off]? = some a) (hb : ys[off]? = some b) (h : EqV P ty d a b r) (h' : EqF P d xs ys fs r') : EqF P d xs ys ((ty, off) :: fs) (r && r')
theorem EqF.run {fs : List Field} {l : List (Nat × Nat)} {b : Bool} (hl : l = fs.map fun f => (f.type, f.offset)) (hn : fs.all (fun f => decide (f.name ≠ "_")) = true) (h : EqF P d xs ys l b) (w : World) : (Op.eqFields d xs ys fs).run P w = .ok b w := by
 induction fs generalizing l b with
 | nil => subst hl; cases h; simp [Op.eqFields]
 | cons f fs ih =>
  subst hl
  rw [List.map_cons] at h
  simp only [List.all_cons, Bool.and_eq_true, decide_eq_true_eq] at hn
  cases h with
  | cons a b u hd ha hb h1 h2 =>
   have e1 : (part f.type xs f.offset).run P w = .ok a w := by simp [part, run_isAgg u, hd, ha]
   have e2 : (part f.type ys f.offset).run P w = .ok b w := by simp [part, run_isAgg u, hd, hb]
   simp only [Op.eqFields, if_pos hn.1, Sem.run_bind, e1, e2, h1.h w, Result.andThen_ok]
   split
   ·rename_i h3; simp only [Bool.not_eq_true'] at h3; rw [h3]; simp
   ·rename_i h3; simp only [Bool.not_eq_true', Bool.not_eq_false] at h3; rw [h3, Bool.true_and]; exact ih rfl hn.2 h2
end
end Go.SL
/- The document's pairs. -/
set_option autoImplicit false
namespace Go.Proofs.Bt
open Go.SL
abbrev Rdy (E : World) (C : HProp) (S : SV) (l : List Kv) : Prop := ∀ (w : World) (L : List HProp), Sat E w (C :: L) → Rd tKv w S l
theorem Rdy.nil {E : World} {C : HProp} : Rdy E C SV.nil [] := fun _ _ _ => ⟨rfl, Nat.le_refl _, .inl ⟨rfl, rfl⟩⟩
theorem Rdy.old {E : World} {C D : HProp} {S : SV} {l : List Kv} (h : Rdy E C S l) : Rdy E (star C D) S l := fun w L hs => h w (D :: L) hs.star
theorem Rdy.new {E : World} {C : HProp} {S : SV} {l : List Kv} : Rdy E (star C (slc tKv true S l)) S l := fun w L hs => by
 have h2 : Sat E w (slc tKv true S l :: C :: L) := Sat.swap2 hs.star
 exact h2.rd 0 rfl
end Go.Proofs.Bt
/- The document's functions, walked. -/
set_option autoImplicit false
namespace Go.Proofs.Bt
open Go.SL
attribute [local irreducible] J JL QOp JOp seqQ blockQ loopQ retQ slc cel hex star pur stars Does RV Ent pAt scopeQ
attribute [local irreducible] nodeA nodeX treeA
end Go.Proofs.Bt
/- The next text, walked. -/
set_option autoImplicit false
namespace Go.Proofs
open Go.SL
attribute [local irreducible] J JL QOp JOp seqQ blockQ loopQ retQ slc cel hex star pur stars Does RV Ent pAt
def nextV (s : List UInt8) : Value := match nextT s with
 | some (t, r) => .tuple #[str t, str r, .bool true]
 | none => .tuple #[str [], str [], .bool false]
theorem wnext_ok (E : World) (s : List UInt8) : Does Tryz.prog E 104 [str s] [] fun v L => v = nextV s ∧ L = [] := by
 refine Does.of Tryz.func104 rfl Tryz.ntmps104 rfl rfl fun F => ?_
 refine J.norm ?_
 refine Sr ?_
 refine Lq (Q_assign rfl) ?_
 refine Lq (Q_assign rfl) ?_
 refine Lq (Q_assign rfl) ?_
 refine Ln ?_
 refine J_seq ?_
 refine Sr ?_
 refine Lq (Q_move rfl) ?_
 refine Lq (Q_slen rfl) ?_
 refine Lq (Q_lss rfl rfl) ?_
 refine Ln ?_
 refine J_condD rfl (fun h => ?_) (fun h => ?_)
 ·have e : nextV s = .tuple #[str [], str [], .bool false] := by unfold nextV nextT; rw [if_pos (by omega)]
  rw [e]
  refine Sr ?_
  refine Lq (Q_assign rfl) ?_
  refine Lq (Q_assign rfl) ?_
  refine Lq (Q_assign rfl) ?_
  refine Ln ?_
  refine J_ret ?_
  refine seqQ_ret ?_
  exact retQ_ret _ [] (.cons (RV_tmp rfl) (.cons (RV_tmp rfl) (.cons (RV_tmp rfl) .nil))) ⟨rfl, rfl⟩ (Ent.refl _)
 ·have hl : 4 ≤ s.length := by omega
  have g0 := s[0].toNat_lt
  have g1 := s[1].toNat_lt
  have g2 := s[2].toNat_lt
  have g3 := s[3].toNat_lt
  have hor := or4 s[0].toNat s[1].toNat s[2].toNat s[3].toNat g1 g2 g3
  rw [← be4 s hl] at hor
  have k1 : s[0].toNat * 2 ^ 24 < 2 ^ 63 := Nat.lt_of_lt_of_le (Nat.mul_lt_mul_of_pos_right g0 (by decide)) (by decide)
  have k2 : s[1].toNat * 2 ^ 16 < 2 ^ 63 := Nat.lt_of_lt_of_le (Nat.mul_lt_mul_of_pos_right g1 (by decide)) (by decide)
  have k3 : s[2].toNat * 2 ^ 8 < 2 ^ 63 := Nat.lt_of_lt_of_le (Nat.mul_lt_mul_of_pos_right g2 (by decide)) (by decide)
  have k4 : s[0].toNat * 2 ^ 24 ||| s[1].toNat * 2 ^ 16 < 2 ^ 63 := Nat.or_lt_two_pow k1 k2
  have k5 : s[0].toNat * 2 ^ 24 ||| s[1].toNat * 2 ^ 16 ||| s[2].toNat * 2 ^ 8 < 2 ^ 63 := Nat.or_lt_two_pow k4 k3
  have hbe : be (s.take 4) < 256 ^ 4 := be_lt4 _ 4 (by simp; omega)
  refine J_skip ?_
  refine seqQ_normal ?_
  refine J_seq ?_
  refine DL [0,1,2,3,4,5,6,7,8,9,10,11,12,13,14,15,16,17,18] (.quiet 0 (.quiet 1 (.quiet 2 (.quiet 3 (.quiet 4 (.quiet 5 (.quiet 6 (.quiet 7 (.quiet 8 (.quiet 9 (.quiet 10 (.quiet 11 (.quiet 12 (.quiet 13 (.quiet 14 (.quiet 15 (.quiet 16 (.quiet 17 (.quiet 18 .done))))))))))))))))))) Tryz.mixed ?_
  refine Sq (Ent.refl _) rfl (Q_move rfl) ?_
  refine Sq (Ent.refl _) rfl (Q_sindex 0 rfl rfl rfl (by omega)) ?_
  refine Sq (Ent.refl _) rfl (Q_cvt rfl (by first | exact IntWalk.i64_in _ (by omega) | exact IntWalk.u8_in _ (by omega) | exact IntWalk.u32_in _ (by omega) | exact IntWalk.u64_in _ (by omega) | rfl)) ?_
  refine Sq (Ent.refl _) rfl (Q_shlZ s[0].toNat 24 rfl rfl rfl rfl (by decide) k1) ?_
  refine Sq (Ent.refl _) rfl (Q_move rfl) ?_
  refine Sq (Ent.refl _) rfl (Q_sindex 1 rfl rfl rfl (by omega)) ?_
  refine Sq (Ent.refl _) rfl (Q_cvt rfl (by first | exact IntWalk.i64_in _ (by omega) | exact IntWalk.u8_in _ (by omega) | exact IntWalk.u32_in _ (by omega) | exact IntWalk.u64_in _ (by omega) | rfl)) ?_
  refine Sq (Ent.refl _) rfl (Q_shlZ s[1].toNat 16 rfl rfl rfl rfl (by decide) k2) ?_
  refine Sq (Ent.refl _) rfl (Q_orZ _ _ rfl rfl rfl rfl k1 k2) ?_
  refine Sq (Ent.refl _) rfl (Q_move rfl) ?_
  refine Sq (Ent.refl _) rfl (Q_sindex 2 rfl rfl rfl (by omega)) ?_
  refine Sq (Ent.refl _) rfl (Q_cvt rfl (by first | exact IntWalk.i64_in _ (by omega) | exact IntWalk.u8_in _ (by omega) | exact IntWalk.u32_in _ (by omega) | exact IntWalk.u64_in _ (by omega) | rfl)) ?_
  refine Sq (Ent.refl _) rfl (Q_shlZ s[2].toNat 8 rfl rfl rfl rfl (by decide) k3) ?_
  refine Sq (Ent.refl _) rfl (Q_orZ _ _ rfl rfl rfl rfl k4 k3) ?_
  refine Sq (Ent.refl _) rfl (Q_move rfl) ?_
  refine Sq (Ent.refl _) rfl (Q_sindex 3 rfl rfl rfl (by omega)) ?_
  refine Sq (Ent.refl _) rfl (Q_cvt rfl (by first | exact IntWalk.i64_in _ (by omega) | exact IntWalk.u8_in _ (by omega) | exact IntWalk.u32_in _ (by omega) | exact IntWalk.u64_in _ (by omega) | rfl)) ?_
  refine Sq (Ent.refl _) rfl ((Q_orZ _ s[3].toNat rfl rfl rfl rfl k5 (Nat.lt_of_lt_of_le g3 (by decide))).as (v' := .int .i64 (be (s.take 4) : Int)) (by rw [hor])) ?_
  refine Sq (Ent.refl _) rfl (Q_assign rfl) ?_
  refine S_nil ?_
  refine seqQ_normal ?_
  refine J_seq ?_
  refine Sr ?_
  refine Lq (Q_move rfl) ?_
  refine Lq (Q_ssL 4 rfl rfl rfl hl) ?_
  refine Lq (Q_assign rfl) ?_
  refine Ln ?_
  refine Sr ?_
  refine Lq (Q_move rfl) ?_
  refine Lq (Q_slen rfl) ?_
  refine Lq (Q_move rfl) ?_
  refine Lq (Q_lss rfl rfl) ?_
  refine Ln ?_
  refine J_condD rfl (fun h2 => ?_) (fun h2 => ?_)
  ·have e : nextV s = .tuple #[str [], str [], .bool false] := by unfold nextV nextT; rw [if_neg (by omega), if_pos (by omega)]
   rw [e]
   refine Sr ?_
   refine Lq (Q_assign rfl) ?_
   refine Lq (Q_assign rfl) ?_
   refine Lq (Q_assign rfl) ?_
   refine Ln ?_
   refine J_ret ?_
   refine seqQ_ret ?_
   exact retQ_ret _ [] (.cons (RV_tmp rfl) (.cons (RV_tmp rfl) (.cons (RV_tmp rfl) .nil))) ⟨rfl, rfl⟩ (Ent.refl _)
  ·have e : nextV s = .tuple #[str ((s.drop 4).take (be (s.take 4))), str ((s.drop 4).drop (be (s.take 4))), .bool true] := by unfold nextV nextT; rw [if_neg (by omega), if_neg (by omega)]
   rw [e]
   have hle : be (s.take 4) ≤ (s.drop 4).length := by omega
   refine J_skip ?_
   refine seqQ_normal ?_
   refine J_seq ?_
   refine DL [0,1,2,3,4,5,6,7,8] (.quiet 0 (.quiet 1 (.quiet 2 (.quiet 3 (.quiet 4 (.quiet 5 (.quiet 6 (.quiet 7 (.quiet 8 .done))))))))) Tryz.mixed ?_
   refine Sq (Ent.refl _) rfl (Q_move rfl) ?_
   refine Sq (Ent.refl _) rfl (Q_move rfl) ?_
   refine Sq (Ent.refl _) rfl (Q_ssH (be (s.take 4)) rfl rfl rfl hle) ?_
   refine Sq (Ent.refl _) rfl (Q_move rfl) ?_
   refine Sq (Ent.refl _) rfl (Q_move rfl) ?_
   refine Sq (Ent.refl _) rfl (Q_ssL (be (s.take 4)) rfl rfl rfl hle) ?_
   refine Sq (Ent.refl _) rfl (Q_assign rfl) ?_
   refine Sq (Ent.refl _) rfl (Q_assign rfl) ?_
   refine Sq (Ent.refl _) rfl (Q_assign rfl) ?_
   refine S_nil ?_
   refine seqQ_normal ?_
   refine J_ret ?_
   exact retQ_ret _ [] (.cons (RV_tmp rfl) (.cons (RV_tmp rfl) (.cons (RV_tmp rfl) .nil))) ⟨rfl, rfl⟩ (Ent.refl _)
end Go.Proofs
/- Texts read, walked. -/
set_option autoImplicit false
namespace Go.Proofs
open Go.SL
attribute [local irreducible] J JL QOp JOp seqQ blockQ loopQ retQ slc cel hex star pur stars Does RV Ent pAt
theorem wread_ok (E : World) (s : List UInt8) (hs : s.length ≤ 100000000) : Does Tryz.prog E 80 [str s] [] fun v L => ∃ S : SV, v = .tuple #[S.v, .int .i64 (readE s)] ∧ L = [slc tS true S (readL s)] := by
 refine Does.of Tryz.func80 rfl Tryz.ntmps80 rfl rfl fun F => ?_
 refine J.norm ?_
 refine Sr ?_
 refine Lq (Q_assign rfl) ?_
 refine Lq (Q_assign rfl) ?_
 refine Ln ?_
 refine Sr ?_
 refine Lq (Q_assign rfl) ?_
 refine Ln ?_
 refine J_seq ?_
 refine J_block ?_
 refine J.ent (Ent.mk fun _ _ h => (h.lay_nil tS true : Sat _ _ (slc tS true SV.nil [] :: _))) ?_
 refine J_loop (fun i : List (List UInt8) × SV × List UInt8 => readT s = (readT i.2.2).map (i.1 ++ ·) ∧ i.1.length + i.2.2.length ≤ s.length) (fun i => [(0, str i.2.2), (4, i.2.1.v)])
  (fun i => [slc tS true i.2.1 i.1, F]) (fun i => i.2.2.length) ([], SV.nil, s) ⟨by simp, by simp⟩ ⟨rfl, rfl, trivial⟩ (Ent.refl _) ?_
 rintro ⟨out, B, r⟩ ⟨h1, h2⟩
 simp only at h1 h2
 refine J_seq ?_
 refine Sr ?_
 refine Lq (Q_move rfl) ?_
 refine Lq (Q_sneq rfl rfl) ?_
 refine Ln ?_
 refine J_condD rfl (fun h => ?_) (fun h => ?_)
 ·have hn := wnext_ok E r
  cases hx : nextT r with
  | none =>
   have e : nextV r = .tuple #[str [], str [], .bool false] := by unfold nextV; rw [hx]
   have e2 : readT s = none := by rw [h1, readT_none h hx]; rfl
   have e3 : readE s = 3 := by unfold readE; rw [e2]; rfl
   have e4 : readL s = [] := by unfold readL; rw [e2]; rfl
   rw [e] at hn
   refine J_skip ?_
   refine seqQ_normal ?_
   refine J_block ?_
   refine Sr ?_
   refine Lq (Q_move rfl) ?_
   refine L_o rfl rfl rfl (O_call [] [0,1] hn rfl rfl ?_)
   rintro _ _ ⟨rfl, rfl⟩
   refine JL.norm ?_
   refine Lq (Q_move rfl) ?_
   refine Lq (Q_extract (v := str []) rfl rfl) ?_
   refine Lq (Q_extract (v := str []) rfl rfl) ?_
   refine Lq (Q_extract (v := .bool false) rfl rfl) ?_
   refine Lq (Q_assign rfl) ?_
   refine Lq (Q_assign rfl) ?_
   refine Lq (Q_assign rfl) ?_
   refine Ln ?_
   refine J_seq ?_
   refine Sr ?_
   refine Lq (Q_move rfl) ?_
   refine Lq (Q_not rfl) ?_
   refine Ln ?_
   refine J_condT rfl ?_
   refine Sr ?_
   refine Lq (Q_assign rfl) ?_
   refine Lq (Q_assign rfl) ?_
   refine Ln ?_
   refine J_ret ?_
   refine seqQ_ret ?_
   refine blockQ_ret ?_
   refine loopQ_ret ?_
   refine blockQ_ret ?_
   refine seqQ_ret ?_
   refine retQ_ret _ [slc tS true SV.nil []] (.cons (RV_tmp rfl) (.cons (RV_tmp rfl) .nil)) ⟨SV.nil, by rw [e3]; rfl, by rw [e4]⟩ ?_
   exact (Ent.mk fun _ _ h => (h.lay_nil tS true : Sat _ _ (slc tS true SV.nil [] :: _))).trans (Ent.re [0,2] rfl)
  | some tr =>
   obtain ⟨t, r'⟩ := tr
   have e : nextV r = .tuple #[str t, str r', .bool true] := by unfold nextV; rw [hx]
   have hlt := nextT_lt hx
   rw [e] at hn
   refine J_skip ?_
   refine seqQ_normal ?_
   refine J_block ?_
   refine Sr ?_
   refine Lq (Q_move rfl) ?_
   refine L_o rfl rfl rfl (O_call [] [0,1] hn rfl rfl ?_)
   rintro _ _ ⟨rfl, rfl⟩
   refine JL.norm ?_
   refine Lq (Q_move rfl) ?_
   refine Lq (Q_extract (v := str t) rfl rfl) ?_
   refine Lq (Q_extract (v := str r') rfl rfl) ?_
   refine Lq (Q_extract (v := .bool true) rfl rfl) ?_
   refine Lq (Q_assign rfl) ?_
   refine Lq (Q_assign rfl) ?_
   refine Lq (Q_assign rfl) ?_
   refine Ln ?_
   refine J_seq ?_
   refine Sr ?_
   refine Lq (Q_move rfl) ?_
   refine Lq (Q_not rfl) ?_
   refine Ln ?_
   refine J_condF rfl ?_
   refine J_skip ?_
   refine seqQ_normal ?_
   refine J_region ?_
   refine Lq (Q_move rfl) ?_
   refine Lq (Q_move rfl) ?_
   refine L_o rfl rfl rfl (O_litP (τ := tS) (m := 1) (sz := 1) [t] rfl rfl rfl rfl rfl rfl (by decide) (fun S1 => ?_))
   refine JL.norm ?_
   refine L_o rfl rfl rfl (O_app (τ := tS) 1 rfl (fun w h => h.rd 0 rfl) rfl rfl rfl rfl (by simp; omega) (by decide) (fun S2 => ?_))
   refine JL.norm ?_
   refine Lq (Q_move rfl) ?_
   refine Lq (Q_assign rfl) ?_
   refine Lq (Q_assign rfl) ?_
   refine JL_nil ?_
   refine blockQ_normal ?_
   refine loopQ_normal (out ++ [t], S2, r') ⟨?_, by simp; omega⟩ hlt.1 ⟨rfl, rfl, trivial⟩ (Ent.re [1,2] rfl)
   rw [h1, readT_some h hx]
   cases readT r' <;> simp
 ·have hr : r = [] := Classical.not_not.1 h
  subst hr
  rw [readT_nil] at h1
  have e3 : readE s = 0 := by unfold readE; rw [h1]; rfl
  have e4 : readL s = out := by unfold readL; rw [h1]; simp
  refine J_exit ?_
  refine seqQ_exit ?_
  refine loopQ_exit ?_
  refine blockQ_hit ?_
  refine seqQ_normal ?_
  refine Sr ?_
  refine Lq (Q_move rfl) ?_
  refine Lq (Q_assign rfl) ?_
  refine Lq (Q_assign rfl) ?_
  refine Ln ?_
  refine J_ret ?_
  exact retQ_ret _ [slc tS true B out] (.cons (RV_tmp rfl) (.cons (RV_tmp rfl) .nil)) ⟨B, by rw [e3]; rfl, by rw [e4]⟩ (Ent.refl _)
end Go.Proofs
/- A store's changes: their bytes, what they do, how they are read. -/
set_option autoImplicit false
namespace Go.Proofs
open Go.SL Go.Proofs.Bt
inductive Chg where
 | put (k v : Ky)
 | del (k : Ky)
 | none
def chT : Chg → Nat
 | .put .. => 93
 | .del .. => 96
 | .none => 174
def chA : Chg → Value
 | .put k v => .agg #[str k, str v]
 | .del k => .agg #[str k]
 | .none => .agg #[]
def chV (c : Chg) : Value := .iface (chT c) (chA c)
def chB : Chg → List UInt8
 | .put k v => texts [[112], k, v]
 | .del k => texts [[100], k]
 | .none => []
def chL (l : List Kv) : Chg → List Kv
 | .put k v => putL l k v
 | .del k => delL l k
 | .none => l
def readC (s : List UInt8) : Chg := if readE s = 0 ∧ (readL s).length = 3 then .put ((readL s).getD 1 []) ((readL s).getD 2 []) else if readE s = 0 ∧ (readL s).length = 2 then .del ((readL s).getD 1 []) else .none
attribute [local irreducible] J JL QOp JOp seqQ blockQ loopQ retQ slc cel hex star pur stars Does RV Ent pAt scopeQ
attribute [local irreducible] nodeA nodeX treeA
theorem key_ok (E : World) (k : Ky) : Does Tryz.prog E 39 [str k] [] fun v L => v = .bool (decide (k ≠ []) && decide (k.length ≤ 32)) ∧ L = [] := by
 refine Does.of Tryz.func39 rfl Tryz.ntmps39 rfl rfl fun F => ?_
 refine J.norm ?_
 refine Sr ?_
 refine Lq (Q_assign rfl) ?_
 refine Ln ?_
 refine J_seq ?_
 by_cases h0 : k = []
 ·skip
  refine J_region ?_
  refine Lq (Q_move rfl) ?_
  refine Lq ((Q_sneq rfl rfl).as (v' := .bool false) (congrArg Value.bool (decide_eq_false (by simp [h0])))) ?_
  refine Lq (Q_move rfl) ?_
  refine L_n rfl rfl rfl ?_
  refine L_n rfl rfl rfl ?_
  refine L_n rfl rfl rfl ?_
  refine Lq (Q_pickF rfl rfl) ?_
  refine Lq (Q_assign rfl) ?_
  refine Ln ?_
  refine J_ret ?_
  exact retQ_ret _ [] (.cons (RV_tmp rfl) .nil) ⟨by simp [h0, oneOf], rfl⟩ (Ent.refl _)
 ·skip
  refine J_region ?_
  refine Lq (Q_move rfl) ?_
  refine Lq ((Q_sneq rfl rfl).as (v' := .bool true) (congrArg Value.bool (decide_eq_true h0))) ?_
  refine Lq (Q_move rfl) ?_
  refine Lq (Q_move rfl) ?_
  refine Lq (Q_slen rfl) ?_
  refine Lq ((Q_leq rfl rfl).as (v' := .bool (decide (k.length ≤ 32))) (congrArg Value.bool (decide_eq_decide.2 (by omega)))) ?_
  refine Lq (Q_pickT rfl rfl) ?_
  refine Lq (Q_assign rfl) ?_
  refine Ln ?_
  refine J_ret ?_
  exact retQ_ret _ [] (.cons (RV_tmp rfl) .nil) ⟨by simp [h0, oneOf], rfl⟩ (Ent.refl _)
theorem putB_ok (E : World) (k v : Ky) (h : k.length + v.length ≤ 1000000) : Does Tryz.prog E 158 [.agg #[str k, str v]] [] fun r L => r = str (texts [[112], k, v]) ∧ L = [] := by
 refine Does.of Tryz.func158 rfl Tryz.ntmps158 rfl rfl fun F => ?_
 refine J.norm ?_
 refine Sr ?_
 refine L_o rfl rfl rfl (O_box rfl fun b1 => ?_)
 refine Lq (Q_assign rfl) ?_
 refine Ln ?_
 refine Sr ?_
 refine Lq (Q_fa0 rfl) ?_
 refine Lq (Q_ld 0 rfl rfl rfl rfl) ?_
 refine Lq (Q_fa0 rfl) ?_
 refine Lq (Q_ld 0 rfl rfl rfl rfl) ?_
 refine L_o rfl rfl rfl (O_litP (τ := tS) (m := 3) (sz := 1) [[112], k, v] rfl rfl rfl rfl rfl rfl (by decide) (fun U => ?_))
 refine JL.norm ?_
 refine L_o rfl rfl rfl (O_call [0] [1,2] (wtexts_ok E true U [[112], k, v] (by simp) (by simp [texts, four]; omega)) rfl rfl ?_)
 rintro _ _ ⟨rfl, rfl⟩
 refine JL.norm ?_
 refine Lq (Q_assign rfl) ?_
 refine Ln ?_
 refine J_ret ?_
 exact retQ_ret _ [] (.cons (RV_tmp rfl) .nil) ⟨rfl, rfl⟩ (Ent.re [2] rfl)
theorem putD_ok (E : World) (p : Nat) (l : List Kv) (k v : Ky) (hl : l.length ≤ 1000000) : Does Tryz.prog E 159 [.agg #[str k, str v], .pointer (some ⟨p, 0, none⟩)] [treeA p l] fun r L => r = .tuple #[] ∧ L = [treeA p (putL l k v)] := by
 refine Does.of Tryz.func159 rfl Tryz.ntmps159 rfl rfl fun F => ?_
 refine J.norm ?_
 refine Sr ?_
 refine L_o rfl rfl rfl (O_box rfl fun b2 => ?_)
 refine Ln ?_
 refine J_region ?_
 refine Lq (Q_move rfl) ?_
 refine Lq (Q_fa0 rfl) ?_
 refine Lq (Q_ld 0 rfl rfl rfl rfl) ?_
 refine Lq (Q_fa0 rfl) ?_
 refine Lq (Q_ld 0 rfl rfl rfl rfl) ?_
 refine L_o rfl rfl rfl (O_call [1] [0,2] (tput_ok E p l k v hl) rfl rfl ?_)
 rintro _ _ ⟨rfl, rfl⟩
 refine JL.norm ?_
 refine JL_nil ?_
 exact retQ_normal [] [treeA p (putL l k v)] .nil ⟨rfl, rfl⟩ (Ent.re [0,2] rfl)
theorem delD_ok (E : World) (p : Nat) (l : List Kv) (k : Ky) (hl : l.length ≤ 1000000) : Does Tryz.prog E 161 [.agg #[str k], .pointer (some ⟨p, 0, none⟩)] [treeA p l] fun r L => r = .tuple #[] ∧ L = [treeA p (delL l k)] := by
 refine Does.of Tryz.func161 rfl Tryz.ntmps161 rfl rfl fun F => ?_
 refine J.norm ?_
 refine Sr ?_
 refine L_o rfl rfl rfl (O_box rfl fun b2 => ?_)
 refine Ln ?_
 refine J_region ?_
 refine Lq (Q_move rfl) ?_
 refine Lq (Q_fa0 rfl) ?_
 refine Lq (Q_ld 0 rfl rfl rfl rfl) ?_
 refine L_o rfl rfl rfl (O_call [1] [0,2] (tdel_ok E p l k hl) rfl rfl ?_)
 rintro _ _ ⟨rfl, rfl⟩
 refine JL.norm ?_
 refine JL_nil ?_
 exact retQ_normal [] [treeA p (delL l k)] .nil ⟨rfl, rfl⟩ (Ent.re [0,2] rfl)
theorem noneD_ok (E : World) (p : Nat) (l : List Kv) : Does Tryz.prog E 172 [.agg #[], .pointer (some ⟨p, 0, none⟩)] [treeA p l] fun r L => r = .tuple #[] ∧ L = [treeA p l] := by
 refine Does.of Tryz.func172 rfl Tryz.ntmps172 rfl rfl fun F => ?_
 refine J.norm ?_
 refine J_region ?_
 refine L_o rfl rfl rfl (O_box rfl fun b2 => ?_)
 refine JL_nil ?_
 exact retQ_normal [] [treeA p l] .nil ⟨rfl, rfl⟩ (Ent.re [1,2] rfl)
theorem metPB : MetFn Tryz.prog 93 "sandglass/kv.bytes" 158 := ⟨by kernel_rfl, by kernel_rfl⟩
theorem metPD : MetFn Tryz.prog 93 "sandglass/kv.do" 159 := ⟨by kernel_rfl, by kernel_rfl⟩
theorem metDD : MetFn Tryz.prog 96 "sandglass/kv.do" 161 := ⟨by kernel_rfl, by kernel_rfl⟩
theorem metND : MetFn Tryz.prog 174 "sandglass/kv.do" 172 := ⟨by kernel_rfl, by kernel_rfl⟩
end Go.Proofs
/- A record's change read; a number in four bytes. -/
set_option autoImplicit false
namespace Go.Proofs
open Go.SL Go.Proofs.Bt
theorem three_get {l : List (List UInt8)} (h : 1 < l.length) : l[1] = l.getD 1 [] := by
 rw [List.getD_eq_getElem?_getD, List.getElem?_eq_getElem h]; rfl
theorem three_get2 {l : List (List UInt8)} (h : 2 < l.length) : l[2] = l.getD 2 [] := by
 rw [List.getD_eq_getElem?_getD, List.getElem?_eq_getElem h]; rfl
attribute [local irreducible] J JL QOp JOp seqQ blockQ loopQ retQ slc cel hex star pur stars Does RV Ent pAt scopeQ
attribute [local irreducible] nodeA nodeX treeA
theorem kread_ok (E : World) (s : List UInt8) (hs : s.length ≤ 100000000) : Does Tryz.prog E 55 [str s] [] fun v L => v = chV (readC s) ∧ L = [] := by
 refine Does.of Tryz.func55 rfl Tryz.ntmps55 rfl rfl fun F => ?_
 refine J.norm ?_
 refine Sr ?_
 refine Lq (Q_assign rfl) ?_
 refine Ln ?_
 refine Sr ?_
 refine Lq (Q_move rfl) ?_
 refine L_o rfl rfl rfl (O_call [] [0] (wread_ok E s hs) rfl rfl ?_)
 rintro _ _ ⟨S, rfl, rfl⟩
 refine JL.norm ?_
 refine Lq (Q_move rfl) ?_
 refine Lq (Q_extract (v := S.v) rfl rfl) ?_
 refine Lq (Q_extract (v := .int .i64 (readE s)) rfl rfl) ?_
 refine Lq (Q_assign rfl) ?_
 refine Lq (Q_assign rfl) ?_
 refine Ln ?_
 refine J_seq ?_
 refine J_block ?_
 refine J_seq ?_
 by_cases he : readE s = 0
 ·by_cases h3 : (readL s).length = 3
  ·have hc : readC s = .put ((readL s).getD 1 []) ((readL s).getD 2 []) := by unfold readC; rw [if_pos ⟨he, h3⟩]
   have l1 : 1 < (readL s).length := by omega
   have l2 : 2 < (readL s).length := by omega
   have g1 := three_get l1
   have g2 := three_get2 l2
   rw [hc]
   refine J_region ?_
   refine Lq (Q_move rfl) ?_
   refine Lq ((Q_eql rfl rfl).as (v' := .bool true) (congrArg Value.bool (decide_eq_true he))) ?_
   refine Lq (Q_move rfl) ?_
   refine Lq (Q_move rfl) ?_
   refine Lq (Q_lenAt 0 rfl rfl) ?_
   refine Lq ((Q_eql rfl rfl).as (v' := .bool true) (congrArg Value.bool (decide_eq_true (by omega)))) ?_
   refine Lq (Q_pickT rfl rfl) ?_
   refine Lq (Q_assign rfl) ?_
   refine Ln ?_
   refine J_condT rfl ?_
   refine J_seq ?_
   refine DH [0] [0,1,2,3,4,5,6,7,8] (.quiet 0 (.quiet 1 (.quiet 2 (.quiet 3 (.quiet 4 (.quiet 5 (.quiet 6 (.quiet 7 (.quiet 8 .done))))))))) Tryz.mixed ?_
   refine Sq (Ent.re [0] rfl) rfl (Q_move rfl) ?_
   refine Sq (Ent.re [0] rfl) rfl (Q_ixAt 0 1 rfl rfl rfl rfl l1 rfl) ?_
   refine Sq (Ent.re [0] rfl) rfl (Q_ldEAt 0 1 0 (v := str ((readL s).getD 1 [])) rfl rfl rfl rfl l1 (by decide) (by rw [g1]; rfl)) ?_
   refine Sq (Ent.re [0] rfl) rfl (Q_move rfl) ?_
   refine Sq (Ent.re [0] rfl) rfl (Q_ixAt 0 2 rfl rfl rfl rfl l2 rfl) ?_
   refine Sq (Ent.re [0] rfl) rfl (Q_ldEAt 0 2 0 (v := str ((readL s).getD 2 [])) rfl rfl rfl rfl l2 (by decide) (by rw [g2]; rfl)) ?_
   refine Sq (Ent.re [0] rfl) rfl (Q_build rfl) ?_
   refine Sq (Ent.re [0] rfl) rfl (Q_makeInterface rfl rfl) ?_
   refine Sq (Ent.re [0] rfl) rfl (Q_assign rfl) ?_
   refine S_nil ?_
   refine seqQ_normal ?_
   refine J_ret ?_
   refine blockQ_ret ?_
   refine seqQ_ret ?_
   exact retQ_ret _ [] (.cons (RV_tmp rfl) .nil) ⟨rfl, rfl⟩ (Ent.re [1] rfl)
  ·skip
   refine J_region ?_
   refine Lq (Q_move rfl) ?_
   refine Lq ((Q_eql rfl rfl).as (v' := .bool true) (congrArg Value.bool (decide_eq_true he))) ?_
   refine Lq (Q_move rfl) ?_
   refine Lq (Q_move rfl) ?_
   refine Lq (Q_lenAt 0 rfl rfl) ?_
   refine Lq ((Q_eql rfl rfl).as (v' := .bool false) (congrArg Value.bool (decide_eq_false (by omega)))) ?_
   refine Lq (Q_pickT rfl rfl) ?_
   refine Lq (Q_assign rfl) ?_
   refine Ln ?_
   refine J_condF rfl ?_
   refine J_seq ?_
   by_cases h2 : (readL s).length = 2
   ·have hc : readC s = .del ((readL s).getD 1 []) := by unfold readC; rw [if_neg (fun h => h3 h.2), if_pos ⟨he, h2⟩]
    have l1 : 1 < (readL s).length := by omega
    have g1 := three_get l1
    rw [hc]
    refine J_region ?_
    refine Lq (Q_move rfl) ?_
    refine Lq ((Q_eql rfl rfl).as (v' := .bool true) (congrArg Value.bool (decide_eq_true he))) ?_
    refine Lq (Q_move rfl) ?_
    refine Lq (Q_move rfl) ?_
    refine Lq (Q_lenAt 0 rfl rfl) ?_
    refine Lq ((Q_eql rfl rfl).as (v' := .bool true) (congrArg Value.bool (decide_eq_true (by omega)))) ?_
    refine Lq (Q_pickT rfl rfl) ?_
    refine Lq (Q_assign rfl) ?_
    refine Ln ?_
    refine J_condT rfl ?_
    refine Sr ?_
    refine Lq (Q_move rfl) ?_
    refine Lq (Q_ixAt 0 1 rfl rfl rfl rfl l1 rfl) ?_
    refine Lq (Q_ldEAt 0 1 0 (v := str ((readL s).getD 1 [])) rfl rfl rfl rfl l1 (by decide) (by rw [g1]; rfl)) ?_
    refine Lq (Q_build rfl) ?_
    refine Lq (Q_makeInterface rfl rfl) ?_
    refine Lq (Q_assign rfl) ?_
    refine Ln ?_
    refine J_ret ?_
    refine blockQ_ret ?_
    refine seqQ_ret ?_
    exact retQ_ret _ [] (.cons (RV_tmp rfl) .nil) ⟨rfl, rfl⟩ (Ent.re [1] rfl)
   ·have hc : readC s = .none := by unfold readC; rw [if_neg (fun h => h3 h.2), if_neg (fun h => h2 h.2)]
    rw [hc]
    refine J_region ?_
    refine Lq (Q_move rfl) ?_
    refine Lq ((Q_eql rfl rfl).as (v' := .bool true) (congrArg Value.bool (decide_eq_true he))) ?_
    refine Lq (Q_move rfl) ?_
    refine Lq (Q_move rfl) ?_
    refine Lq (Q_lenAt 0 rfl rfl) ?_
    refine Lq ((Q_eql rfl rfl).as (v' := .bool false) (congrArg Value.bool (decide_eq_false (by omega)))) ?_
    refine Lq (Q_pickT rfl rfl) ?_
    refine Lq (Q_assign rfl) ?_
    refine Ln ?_
    refine J_condF rfl ?_
    refine J_skip ?_
    refine blockQ_normal ?_
    refine seqQ_normal ?_
    refine Sr ?_
    refine Lq (Q_build rfl) ?_
    refine Lq (Q_makeInterface rfl rfl) ?_
    refine Lq (Q_assign rfl) ?_
    refine Ln ?_
    refine J_ret ?_
    exact retQ_ret _ [] (.cons (RV_tmp rfl) .nil) ⟨rfl, rfl⟩ (Ent.re [1] rfl)
 ·have hc : readC s = .none := by unfold readC; rw [if_neg (fun h => he h.1), if_neg (fun h => he h.1)]
  rw [hc]
  refine J_region ?_
  refine Lq (Q_move rfl) ?_
  refine Lq ((Q_eql rfl rfl).as (v' := .bool false) (congrArg Value.bool (decide_eq_false he))) ?_
  refine Lq (Q_move rfl) ?_
  refine L_n rfl rfl rfl ?_
  refine L_n rfl rfl rfl ?_
  refine L_n rfl rfl rfl ?_
  refine Lq (Q_pickF rfl rfl) ?_
  refine Lq (Q_assign rfl) ?_
  refine Ln ?_
  refine J_condF rfl ?_
  refine Sr ?_
  refine Lq (Q_move rfl) ?_
  refine Lq ((Q_eql rfl rfl).as (v' := .bool false) (congrArg Value.bool (decide_eq_false he))) ?_
  refine Lq (Q_move rfl) ?_
  refine L_n rfl rfl rfl ?_
  refine L_n rfl rfl rfl ?_
  refine L_n rfl rfl rfl ?_
  refine Lq (Q_pickF rfl rfl) ?_
  refine Lq (Q_assign rfl) ?_
  refine Ln ?_
  refine J_condF rfl ?_
  refine J_skip ?_
  refine blockQ_normal ?_
  refine seqQ_normal ?_
  refine Sr ?_
  refine Lq (Q_build rfl) ?_
  refine Lq (Q_makeInterface rfl rfl) ?_
  refine Lq (Q_assign rfl) ?_
  refine Ln ?_
  refine J_ret ?_
  exact retQ_ret _ [] (.cons (RV_tmp rfl) .nil) ⟨rfl, rfl⟩ (Ent.re [1] rfl)
end Go.Proofs
/- A log in files: a drop; an append. -/
set_option autoImplicit false
namespace Go.Proofs
open Go.SL
attribute [local irreducible] J JL QOp JOp seqQ blockQ loopQ retQ slc cel hex star pur stars Does RV Ent pAt scopeQ
attribute [local irreducible] fileAt diskAt
end Go.Proofs
/- A log in files: an append. -/
set_option autoImplicit false
namespace Go.Proofs
open Go.SL
theorem doD_write (f : Fl) (t : List UInt8) (h : (text f.l).length + (8 + t.length) ≤ 8192) : doD f.d ⟨1, frame t, 0⟩ = ((putF f t).d, 0) := by
 unfold doD
 rw [if_pos rfl, if_neg (by have := frame_len t; simp only [Fl.d] at *; omega)]
 simp [putF, Fl.d, text_snoc]
attribute [local irreducible] J JL QOp JOp seqQ blockQ loopQ retQ slc cel hex star pur stars Does RV Ent pAt scopeQ
attribute [local irreducible] fileAt diskAt
theorem sappend_ok (E : World) (p size sure : Nat) (S : SV) (ps : List Fp) (t : List UInt8) (h64 : 64 ≤ size) (h8 : size ≤ 8192) (hps : ps.length ≤ 16) (hn : nextOf (ps.map (·.1)) ≤ 1000000) (hok : ∀ r ∈ ps, (text r.1.l).length ≤ 8192 ∧ r.1.s ≤ (text r.1.l).length) :
 Does Tryz.prog E 62 [.pointer (some ⟨p, 0, none⟩), str t] [segC p size sure S, slc tPf true S ps, fsC ps] fun v L => ∃ (S' : SV) (ps' : List Fp), v = .tuple #[.int .i64 ((appL ⟨size, sure, ps.map (·.1)⟩ t).2.1 : Int), .int .i64 (appL ⟨size, sure, ps.map (·.1)⟩ t).2.2] ∧
  ps'.map (·.1) = (appL ⟨size, sure, ps.map (·.1)⟩ t).1.fs ∧ L = [segC p size (appL ⟨size, sure, ps.map (·.1)⟩ t).1.sure S', slc tPf true S' ps', fsC ps'] := by
 obtain ⟨g, hg⟩ : ∃ g : Lg, g = ⟨size, sure, ps.map (·.1)⟩ := ⟨_, rfl⟩
 rw [← hg]
 have hgs : g.size = size := by rw [hg]
 have hgu : g.sure = sure := by rw [hg]
 have hgf : g.fs = ps.map (·.1) := by rw [hg]
 have hfr := frame_ok E t
 refine Does.of Tryz.func62 rfl Tryz.ntmps62 rfl rfl fun F => ?_
 refine J.norm ?_
 refine Sr ?_
 refine Lq (Q_assign rfl) ?_
 refine Lq (Q_assign rfl) ?_
 refine Ln ?_
 refine J_seq ?_
 refine Sr ?_
 refine Lq (Q_move rfl) ?_
 refine Lq ((Q_peql rfl rfl).as (v' := .bool false) rfl) ?_
 refine Ln ?_
 refine J_condF rfl ?_
 refine J_skip ?_
 refine seqQ_normal ?_
 refine J_seq ?_
 by_cases h1 : 4096 < t.length
 ·rw [show frameV t = .tuple #[str [], .int .i64 2] by unfold frameV; rw [if_pos h1]] at hfr
  have e : appL g t = (g, 0, 2) := by unfold appL; rw [if_pos h1]
  rw [e]
  refine J_region ?_
  refine Lq (Q_move rfl) ?_
  refine L_o rfl rfl rfl (O_call [] [0,1,2,3] hfr rfl rfl ?_)
  rintro _ _ ⟨rfl, rfl⟩
  refine JL.norm ?_
  refine Lq (Q_move rfl) ?_
  refine Lq (Q_extract (v := str []) rfl rfl) ?_
  refine Lq (Q_extract (v := .int .i64 2) rfl rfl) ?_
  refine Lq (Q_assign rfl) ?_
  refine Lq (Q_assign rfl) ?_
  refine Ln ?_
  refine J_seq ?_
  refine J_block ?_
  refine Sr ?_
  refine Lq (Q_move rfl) ?_
  refine Lq ((Q_neq rfl rfl).as (v' := .bool true) rfl) ?_
  refine Lq (Q_assign rfl) ?_
  refine Ln ?_
  refine J_condT rfl ?_
  refine Sr ?_
  refine Lq (Q_move rfl) ?_
  refine Lq (Q_assign rfl) ?_
  refine Lq (Q_assign rfl) ?_
  refine Ln ?_
  refine J_ret ?_
  refine blockQ_ret ?_
  refine seqQ_ret ?_
  exact retQ_ret _ _ (.cons (RV_tmp rfl) (.cons (RV_tmp rfl) .nil)) ⟨S, ps, rfl, hgf.symm, by rw [hgu]⟩ (Ent.refl _)
 rw [show frameV t = .tuple #[str (frame t), .int .i64 0] by unfold frameV; rw [if_neg h1]] at hfr
 have hfl := frame_len t
 refine J_region ?_
 refine Lq (Q_move rfl) ?_
 refine L_o rfl rfl rfl (O_call [] [0,1,2,3] hfr rfl rfl ?_)
 rintro _ _ ⟨rfl, rfl⟩
 refine JL.norm ?_
 refine Lq (Q_move rfl) ?_
 refine Lq (Q_extract (v := str (frame t)) rfl rfl) ?_
 refine Lq (Q_extract (v := .int .i64 0) rfl rfl) ?_
 refine Lq (Q_assign rfl) ?_
 refine Lq (Q_assign rfl) ?_
 refine Ln ?_
 refine J_seq ?_
 refine J_block ?_
 refine Sr ?_
 refine Lq (Q_move rfl) ?_
 refine Lq ((Q_neq rfl rfl).as (v' := .bool false) rfl) ?_
 refine Lq (Q_assign rfl) ?_
 refine Ln ?_
 refine J_condF rfl ?_
 refine J_seq ?_
 by_cases h2 : size < 8 + t.length
 ·have e : appL g t = (g, 0, 2) := by unfold appL; rw [if_neg h1, if_pos (by omega)]
  rw [e]
  refine J_region ?_
  refine Lq (Q_move rfl) ?_
  refine Lq (Q_slen rfl) ?_
  refine Lq (Q_move rfl) ?_
  refine Lq (Q_nilCheck rfl) ?_
  refine Lq (Q_fa0 rfl) ?_
  refine Lq (Q_ld 0 rfl rfl rfl rfl) ?_
  refine Lq ((Q_gtr rfl rfl).as (v' := .bool true) (congrArg Value.bool (decide_eq_true (by rw [hfl]; omega)))) ?_
  refine Lq (Q_assign rfl) ?_
  refine Ln ?_
  refine J_condT rfl ?_
  refine Sr ?_
  refine Lq (Q_assign rfl) ?_
  refine Lq (Q_assign rfl) ?_
  refine Ln ?_
  refine J_ret ?_
  refine blockQ_ret ?_
  refine seqQ_ret ?_
  exact retQ_ret _ _ (.cons (RV_tmp rfl) (.cons (RV_tmp rfl) .nil)) ⟨S, ps, rfl, hgf.symm, by rw [hgu]⟩ (Ent.refl _)
 refine J_region ?_
 refine Lq (Q_move rfl) ?_
 refine Lq (Q_slen rfl) ?_
 refine Lq (Q_move rfl) ?_
 refine Lq (Q_nilCheck rfl) ?_
 refine Lq (Q_fa0 rfl) ?_
 refine Lq (Q_ld 0 rfl rfl rfl rfl) ?_
 refine Lq ((Q_gtr rfl rfl).as (v' := .bool false) (congrArg Value.bool (decide_eq_false (by rw [hfl]; omega)))) ?_
 refine Lq (Q_assign rfl) ?_
 refine Ln ?_
 refine J_condF rfl ?_
 refine J_seq ?_
 have hroom := room_ok E p size sure (8 + t.length) S ps hps (by omega) h8
 rw [← hg, ← hfl] at hroom
 rw [hfl] at hroom
 cases hb : roomB g (8 + t.length) with
 | true =>
  rw [hb] at hroom
  rcases last_cases ps with rfl | ⟨a, ⟨f, q⟩, rfl⟩
  ·rw [hg] at hb; cases hb
  have hfit : (text f.l).length + (8 + t.length) ≤ size := by
   rw [hg] at hb; simpa [roomB] using hb
  have e : appL g t = (⟨size, sure, (a ++ [(putF f t, q)]).map (·.1)⟩, f.next, 0) := by
   unfold appL
   rw [if_neg h1, if_neg (by omega), if_pos hb, hgf, hgs, hgu]
   simp only [List.map_append, List.map_cons, List.map_nil, onLast_snoc, nextOf_snoc]
  rw [e]
  rw [List.map_append, List.map_cons, List.map_nil, nextOf_snoc] at hn
  have hfn : f.next ≤ 10000000 := Nat.le_trans hn (by decide)
  have hdw := doD_write f t (by omega)
  have hk2 := hok (f, q) (by simp)
  have hdo := fun dp => do_ok E dp f.d ⟨1, frame t, 0⟩ (Nat.two_pow_pos 64) ⟨hk2.2, Nat.le_trans hk2.1 (by decide)⟩
  rw [hdw] at hdo
  dsimp only at hdo
  have hel : (ends f.l).length ≤ 8192 := by rw [ends_len]; have := text_len f.l; omega
  have hlast := last_ok E p size sure S (a ++ [(f, q)]) hps
  rw [lastP_snoc] at hlast
  refine J_region ?_
  refine Lq (Q_move rfl) ?_
  refine Lq (Q_move rfl) ?_
  refine Lq ((Q_slen rfl).as (v' := .int .i64 ((8 + t.length : Nat) : Int)) (by rw [hfl])) ?_
  refine L_o rfl rfl rfl (O_call [0,1,2] [3] hroom rfl rfl ?_)
  rintro _ _ ⟨rfl, rfl⟩
  refine JL.norm ?_
  refine Lq (Q_assign rfl) ?_
  refine Ln ?_
  refine J_condT rfl ?_
  refine J_skip ?_
  refine blockQ_normal ?_
  refine seqQ_normal ?_
  refine Sr ?_
  refine Lq (Q_move rfl) ?_
  refine L_o rfl rfl rfl (O_call [0,1] [2,3] (hlast) rfl rfl ?_)
  rintro _ _ ⟨rfl, rfl⟩
  refine JL.norm ?_
  refine Lq (Q_assign rfl) ?_
  refine Ln ?_
  refine J_seq ?_
  refine J.ent ((Ent.re [2,0,1,3] rfl).trans (Ent.last_out fileAt a (f, q))) ?_
  refine J_region ?_
  refine Lq (Q_move rfl) ?_
  refine L_o rfl rfl rfl (O_call [0] [1,2,3,4] (fnext_ok E f q hfn) rfl rfl ?_)
  rintro _ _ ⟨rfl, rfl⟩
  refine JL.norm ?_
  refine Lq (Q_assign rfl) ?_
  refine Ln ?_
  refine J_seq ?_
  refine J_file fun S4 dp4 => ?_
  refine J_region ?_
  refine Lq (Q_move rfl) ?_
  refine Lq (Q_nilCheck rfl) ?_
  refine Lq (Q_fa0 rfl) ?_
  refine Lq (Q_ld 0 rfl rfl rfl rfl) ?_
  refine Lq (Q_move rfl) ?_
  refine Lq (Q_build rfl) ?_
  refine L_o rfl rfl rfl (O_call [2] [0,1,3,4,5,6] (hdo dp4) rfl rfl ?_)
  rintro _ _ ⟨rfl, rfl⟩
  refine JL.norm ?_
  refine Ln ?_
  refine J_seq ?_
  refine DH [1] [0,1,2,3,4,5,6,7,8,10,13,14] (.quiet 0 (.quiet 1 (.quiet 2 (.quiet 3 (.quiet 4 (.quiet 5 (.quiet 6 (.quiet 7 (.quiet 8 (.loud 9 (.quiet 10 (.loud 11 (.loud 12 (.quiet 13 (.quiet 14 (.loud 15 .done)))))))))))))))) Tryz.mixed ?_
  refine Sq (Ent.re [1] rfl) rfl (Q_move rfl) ?_
  refine Sq (Ent.re [1] rfl) rfl (Q_move rfl) ?_
  refine Sq (Ent.re [1] rfl) rfl (Q_nilCheck rfl) ?_
  refine Sq (Ent.re [1] rfl) rfl (Q_fa0 rfl) ?_
  refine Sq (Ent.re [1] rfl) rfl (Q_ld 0 rfl rfl rfl rfl) ?_
  refine Sq (Ent.re [1] rfl) rfl (Q_move rfl) ?_
  refine Sq (Ent.re [1] rfl) rfl (Q_nilCheck rfl) ?_
  refine Sq (Ent.re [1] rfl) rfl (Q_fa0 rfl) ?_
  refine Sq (Ent.re [1] rfl) rfl (Q_ld 0 rfl rfl rfl rfl) ?_
  refine S_o rfl rfl rfl rfl (O_call [0] [1,2,3,4,5,6] (text_ok E dp4 (putF f t).d) rfl rfl ?_)
  (rintro _ _ ⟨rfl, rfl⟩; refine ⟨_, fun _ => ⟨Ent.reN [1] rfl, Ent.refl _⟩, ?_⟩)
  refine JS.norm ?_
  refine Sq (Ent.re [1] rfl) rfl (Q_slen rfl) ?_
  refine S_o rfl rfl rfl rfl (O_litP (τ := tI) (m := 1) (sz := 1) [(text (f.l ++ [t])).length] rfl rfl rfl rfl rfl rfl (by decide) (fun S5 => ⟨_, fun _ => ⟨Ent.reN [2] rfl, Ent.refl _⟩, ?_⟩))
  refine JS.norm ?_
  refine S_o rfl rfl rfl rfl (O_app (τ := tI) 3 rfl (fun w h => h.rd 0 rfl) rfl rfl rfl rfl (by simp only [List.length_singleton]; omega) (by decide) (fun S6 => ⟨_, fun _ => ⟨Ent.reN [2] rfl, Ent.refl _⟩, ?_⟩))
  refine JS.norm ?_
  refine Sq (Ent.re [2] rfl) rfl (Q_nilCheck rfl) ?_
  refine Sq (Ent.re [2] rfl) rfl (Q_fa0 rfl) ?_
  refine S_s rfl rfl rfl (O_st1 2 rfl rfl rfl rfl rfl ⟨[], free_no (by kernel_rfl), ?_⟩)
  refine JS.norm ?_
  refine S_nil ?_
  refine seqQ_normal ?_
  refine Sr ?_
  refine Lq (Q_move rfl) ?_
  refine Lq (Q_assign rfl) ?_
  refine Lq (Q_assign rfl) ?_
  refine Ln ?_
  refine J_ret ?_
  rw [← ends_snoc]
  refine retQ_ret _ _ (.cons (RV_tmp rfl) (.cons (RV_tmp rfl) .nil)) ⟨S, a ++ [(putF f t, q)], rfl, rfl, rfl⟩ ?_
  rw [slc_onP a f (putF f t) q]
  exact ((Ent.re [2,3,1,4,5,6,7] rfl).trans (fileAt_mk (f := putF f t) rfl rfl rfl rfl)).trans ((Ent.last_in fileAt a (putF f t, q)).trans (Ent.re [1,2,0,3] rfl))
 | false =>
  rw [hb] at hroom
  refine J_region ?_
  refine Lq (Q_move rfl) ?_
  refine Lq (Q_move rfl) ?_
  refine Lq ((Q_slen rfl).as (v' := .int .i64 ((8 + t.length : Nat) : Int)) (by rw [hfl])) ?_
  refine L_o rfl rfl rfl (O_call [0,1,2] [3] hroom rfl rfl ?_)
  rintro _ _ ⟨rfl, rfl⟩
  refine JL.norm ?_
  refine Lq (Q_assign rfl) ?_
  refine Ln ?_
  refine J_condF rfl ?_
  refine J_seq ?_
  by_cases h3 : 16 ≤ ps.length
  ·have e : appL g t = (g, 0, 7) := by unfold appL; rw [if_neg h1, if_neg (by omega), if_neg (by rw [hb]; simp), if_pos (by rw [hgf, List.length_map]; exact h3)]
   rw [e]
   refine J_region ?_
   refine Lq (Q_move rfl) ?_
   refine Lq (Q_nilCheck rfl) ?_
   refine Lq (Q_fa0 rfl) ?_
   refine Lq (Q_ld 0 rfl rfl rfl rfl) ?_
   refine Lq (Q_lenAt 1 rfl rfl) ?_
   refine Lq ((Q_geq rfl rfl).as (v' := .bool true) (congrArg Value.bool (decide_eq_true (by omega)))) ?_
   refine Lq (Q_assign rfl) ?_
   refine Ln ?_
   refine J_condT rfl ?_
   refine Sr ?_
   refine Lq (Q_assign rfl) ?_
   refine Lq (Q_assign rfl) ?_
   refine Ln ?_
   refine J_ret ?_
   refine blockQ_ret ?_
   refine seqQ_ret ?_
   exact retQ_ret _ _ (.cons (RV_tmp rfl) (.cons (RV_tmp rfl) .nil)) ⟨S, ps, rfl, hgf.symm, by rw [hgu]⟩ (Ent.refl _)
  obtain ⟨n0, hn0⟩ : ∃ n0, n0 = nextOf (ps.map (·.1)) := ⟨_, rfl⟩
  obtain ⟨qs, hqs⟩ : ∃ qs, qs = onP ps syncF := ⟨_, rfl⟩
  obtain ⟨su, hsu⟩ : ∃ su, su = if ps = [] then sure else nextOf (ps.map (·.1)) := ⟨_, rfl⟩
  have hql : qs.length = ps.length := by rw [hqs, onP_len]
  have e : appL g t = (⟨size, su, qs.map (·.1) ++ [putF ⟨n0, [], 0⟩ t]⟩, n0, 0) := by
   unfold appL
   rw [if_neg h1, if_neg (by omega), if_neg (by rw [hb]; simp), if_neg (by rw [hgf, List.length_map]; exact h3)]
   have e1 : (syncL g).fs = qs.map (·.1) := by rw [hqs, onP_fst, ← hgf]; rfl
   have e2 : (syncL g).sure = su := by
    rw [hsu, hg]; simp only [syncL, List.map_eq_nil_iff]
   rw [e1, e2, hgs, hgf, ← hn0]
   simp [putF]
  rw [e]
  have hnx := snext_ok E p size sure S ps hps (Nat.le_trans hn (by decide))
  have hsy := sync_ok E p size sure S ps hps (Nat.le_trans hn (by decide)) hok
  rw [← hn0] at hnx
  rw [← hsu, ← hqs] at hsy
  refine J_region ?_
  refine Lq (Q_move rfl) ?_
  refine Lq (Q_nilCheck rfl) ?_
  refine Lq (Q_fa0 rfl) ?_
  refine Lq (Q_ld 0 rfl rfl rfl rfl) ?_
  refine Lq (Q_lenAt 1 rfl rfl) ?_
  refine Lq ((Q_geq rfl rfl).as (v' := .bool false) (congrArg Value.bool (decide_eq_false (by omega)))) ?_
  refine Lq (Q_assign rfl) ?_
  refine Ln ?_
  refine J_condF rfl ?_
  refine Sr ?_
  refine Lq (Q_move rfl) ?_
  refine L_o rfl rfl rfl (O_call [0,1,2] [3] hnx rfl rfl ?_)
  rintro _ _ ⟨rfl, rfl⟩
  refine JL.norm ?_
  refine Lq (Q_assign rfl) ?_
  refine Ln ?_
  refine Sr ?_
  refine Lq (Q_move rfl) ?_
  refine L_o rfl rfl rfl (O_call [0,1,2] [3] hsy rfl rfl ?_)
  rintro _ _ ⟨rfl, rfl⟩
  refine JL.norm ?_
  refine Ln ?_
  refine DH [0] [0,1,2,3,4,5,7,11,12] (.quiet 0 (.quiet 1 (.quiet 2 (.quiet 3 (.quiet 4 (.quiet 5 (.loud 6 (.quiet 7 (.loud 8 (.loud 9 (.loud 10 (.quiet 11 (.quiet 12 (.loud 13 .done)))))))))))))) Tryz.mixed ?_
  refine Sq (Ent.re [0] rfl) rfl (Q_move rfl) ?_
  refine Sq (Ent.re [0] rfl) rfl (Q_move rfl) ?_
  refine Sq (Ent.re [0] rfl) rfl (Q_nilCheck rfl) ?_
  refine Sq (Ent.re [0] rfl) rfl (Q_fa0 rfl) ?_
  refine Sq (Ent.re [0] rfl) rfl (Q_ld 0 rfl rfl rfl rfl) ?_
  refine Sq (Ent.re [0] rfl) rfl (Q_move rfl) ?_
  refine S_o rfl rfl rfl rfl (O_call [] [0,1,2,3] (new_ok E) rfl rfl ?_)
  (rintro _ _ ⟨dp, rfl, rfl⟩; refine ⟨_, fun _ => ⟨Ent.reN [1] rfl, Ent.refl _⟩, ?_⟩)
  refine JS.norm ?_
  refine Sq (Ent.re [1] rfl) rfl (Q_build rfl) ?_
  refine S_o rfl rfl rfl rfl (O_box rfl fun b30 => ⟨_, fun _ => ⟨Ent.reN [2] rfl, Ent.refl _⟩, ?_⟩)
  refine JS.norm ?_
  refine S_o rfl rfl rfl rfl (O_litP (τ := tPf) (m := 1) (sz := 1) [(⟨n0, [], 0⟩, b30)] rfl rfl rfl rfl rfl rfl (by decide) (fun S1 => ⟨_, fun _ => ⟨Ent.reN [3] rfl, Ent.refl _⟩, ?_⟩))
  refine JS.norm ?_
  refine S_o rfl rfl rfl rfl (O_app (τ := tPf) 4 rfl (fun w h => h.rd 0 rfl) rfl rfl rfl rfl (by simp only [List.length_singleton]; omega) (by decide) (fun S2 => ⟨_, fun _ => ⟨Ent.reN [3] rfl, Ent.refl _⟩, ?_⟩))
  refine JS.norm ?_
  refine Sq (Ent.re [3] rfl) rfl (Q_nilCheck rfl) ?_
  refine Sq (Ent.re [3] rfl) rfl (Q_fa0 rfl) ?_
  refine S_s rfl rfl rfl (O_st1 3 rfl rfl rfl rfl rfl ⟨[], free_no (by kernel_rfl), ?_⟩)
  refine JS.norm ?_
  refine S_nil ?_
  refine blockQ_normal ?_
  refine seqQ_normal ?_
  refine J_seq ?_
  refine J.ent (L' := [segC p size su S2, slc tPf true S2 (qs ++ [(⟨n0, [], 0⟩, b30)]), fsC (qs ++ [(⟨n0, [], 0⟩, b30)]), F]) ?_ ?_
  ·refine (Ent.mk fun _ _ h => (h.lay_nil tI true : Sat _ _ (slc tI true SV.nil [] :: _))).trans ?_
   refine (Ent.re [2,0,3,6,4,5,7] rfl).trans ?_
   refine (fileAt_mk (f := ⟨n0, [], 0⟩) (q := b30) (S := SV.nil) (dp := dp) (fi := n0) (es := []) (d := ⟨[], 0⟩) rfl rfl rfl rfl).trans ?_
   exact (Ent.last_in fileAt qs (⟨n0, [], 0⟩, b30)).trans (Ent.re [1,2,0,3] rfl)
  have hfn : (⟨n0, [], 0⟩ : Fl).next ≤ 10000000 := by simp only [Fl.next, List.length_nil]; omega
  have hdw := doD_write ⟨n0, [], 0⟩ t (by simp [text]; omega)
  have hdo := fun dp => do_ok E dp (⟨n0, [], 0⟩ : Fl).d ⟨1, frame t, 0⟩ (Nat.two_pow_pos 64) ⟨Nat.le_refl _, by simp [Fl.d, text]⟩
  rw [hdw] at hdo
  dsimp only at hdo
  have hel : (ends ([] : List (List UInt8))).length ≤ 8192 := by simp [ends]
  have hlast := last_ok E p size su S2 (qs ++ [(⟨n0, [], 0⟩, b30)]) (by simp; omega)
  rw [lastP_snoc] at hlast
  refine J_region ?_
  refine Lq (Q_move rfl) ?_
  refine L_o rfl rfl rfl (O_call [0,1] [2,3] (hlast) rfl rfl ?_)
  rintro _ _ ⟨rfl, rfl⟩
  refine JL.norm ?_
  refine Lq (Q_assign rfl) ?_
  refine Ln ?_
  refine J_seq ?_
  refine J.ent ((Ent.re [2,0,1,3] rfl).trans (Ent.last_out fileAt qs (⟨n0, [], 0⟩, b30))) ?_
  refine J_region ?_
  refine Lq (Q_move rfl) ?_
  refine L_o rfl rfl rfl (O_call [0] [1,2,3,4] (fnext_ok E ⟨n0, [], 0⟩ b30 hfn) rfl rfl ?_)
  rintro _ _ ⟨rfl, rfl⟩
  refine JL.norm ?_
  refine Lq (Q_assign rfl) ?_
  refine Ln ?_
  refine J_seq ?_
  refine J_file fun S4 dp4 => ?_
  refine J_region ?_
  refine Lq (Q_move rfl) ?_
  refine Lq (Q_nilCheck rfl) ?_
  refine Lq (Q_fa0 rfl) ?_
  refine Lq (Q_ld 0 rfl rfl rfl rfl) ?_
  refine Lq (Q_move rfl) ?_
  refine Lq (Q_build rfl) ?_
  refine L_o rfl rfl rfl (O_call [2] [0,1,3,4,5,6] (hdo dp4) rfl rfl ?_)
  rintro _ _ ⟨rfl, rfl⟩
  refine JL.norm ?_
  refine Ln ?_
  refine J_seq ?_
  refine DH [1] [0,1,2,3,4,5,6,7,8,10,13,14] (.quiet 0 (.quiet 1 (.quiet 2 (.quiet 3 (.quiet 4 (.quiet 5 (.quiet 6 (.quiet 7 (.quiet 8 (.loud 9 (.quiet 10 (.loud 11 (.loud 12 (.quiet 13 (.quiet 14 (.loud 15 .done)))))))))))))))) Tryz.mixed ?_
  refine Sq (Ent.re [1] rfl) rfl (Q_move rfl) ?_
  refine Sq (Ent.re [1] rfl) rfl (Q_move rfl) ?_
  refine Sq (Ent.re [1] rfl) rfl (Q_nilCheck rfl) ?_
  refine Sq (Ent.re [1] rfl) rfl (Q_fa0 rfl) ?_
  refine Sq (Ent.re [1] rfl) rfl (Q_ld 0 rfl rfl rfl rfl) ?_
  refine Sq (Ent.re [1] rfl) rfl (Q_move rfl) ?_
  refine Sq (Ent.re [1] rfl) rfl (Q_nilCheck rfl) ?_
  refine Sq (Ent.re [1] rfl) rfl (Q_fa0 rfl) ?_
  refine Sq (Ent.re [1] rfl) rfl (Q_ld 0 rfl rfl rfl rfl) ?_
  refine S_o rfl rfl rfl rfl (O_call [0] [1,2,3,4,5,6] (text_ok E dp4 (putF ⟨n0, [], 0⟩ t).d) rfl rfl ?_)
  (rintro _ _ ⟨rfl, rfl⟩; refine ⟨_, fun _ => ⟨Ent.reN [1] rfl, Ent.refl _⟩, ?_⟩)
  refine JS.norm ?_
  refine Sq (Ent.re [1] rfl) rfl (Q_slen rfl) ?_
  refine S_o rfl rfl rfl rfl (O_litP (τ := tI) (m := 1) (sz := 1) [(text (([] : List (List UInt8)) ++ [t])).length] rfl rfl rfl rfl rfl rfl (by decide) (fun S5 => ⟨_, fun _ => ⟨Ent.reN [2] rfl, Ent.refl _⟩, ?_⟩))
  refine JS.norm ?_
  refine S_o rfl rfl rfl rfl (O_app (τ := tI) 3 rfl (fun w h => h.rd 0 rfl) rfl rfl rfl rfl (by simp only [List.length_singleton]; omega) (by decide) (fun S6 => ⟨_, fun _ => ⟨Ent.reN [2] rfl, Ent.refl _⟩, ?_⟩))
  refine JS.norm ?_
  refine Sq (Ent.re [2] rfl) rfl (Q_nilCheck rfl) ?_
  refine Sq (Ent.re [2] rfl) rfl (Q_fa0 rfl) ?_
  refine S_s rfl rfl rfl (O_st1 2 rfl rfl rfl rfl rfl ⟨[], free_no (by kernel_rfl), ?_⟩)
  refine JS.norm ?_
  refine S_nil ?_
  refine seqQ_normal ?_
  refine Sr ?_
  refine Lq (Q_move rfl) ?_
  refine Lq (Q_assign rfl) ?_
  refine Lq (Q_assign rfl) ?_
  refine Ln ?_
  refine J_ret ?_
  rw [← ends_snoc]
  refine retQ_ret _ _ (.cons (RV_tmp rfl) (.cons (RV_tmp rfl) .nil)) ⟨S2, qs ++ [(putF ⟨n0, [], 0⟩ t, b30)], rfl, by simp, rfl⟩ ?_
  rw [slc_onP qs ⟨n0, [], 0⟩ (putF ⟨n0, [], 0⟩ t) b30]
  exact ((Ent.re [2,3,1,4,5,6,7] rfl).trans (fileAt_mk (f := putF ⟨n0, [], 0⟩ t) rfl rfl rfl rfl)).trans ((Ent.last_in fileAt qs (putF ⟨n0, [], 0⟩ t, b30)).trans (Ent.re [1,2,0,3] rfl))
end Go.Proofs
/- A log in files: what each function does to the whole. -/
set_option autoImplicit false
namespace Go.Proofs
open Go.SL
def newSize (z : Int) : Nat := (min (max z 64) 8192).toNat
theorem newSize_eq (z : Int) : min (max z 64) 8192 = ((newSize z : Nat) : Int) := by unfold newSize; omega
theorem good_new (z : Int) : Good ⟨newSize z, 0, []⟩ 0 := ⟨by simp only [newSize]; omega, by simp, by simp, trivial, Nat.le_refl _⟩
theorem appL_size (g : Lg) (t : List UInt8) : (appL g t).1.size = g.size := by unfold appL; repeat' split
                                                                               all_goals rfl
attribute [local irreducible] J JL QOp JOp seqQ blockQ loopQ retQ slc cel hex star pur stars Does RV Ent pAt scopeQ
attribute [local irreducible] fileAt diskAt
theorem segnew_ok (E : World) (z : Int) : Does Tryz.prog E 37 [.int .i64 z] [] fun v L => ∃ p, v = .pointer (some ⟨p, 0, none⟩) ∧ L = [segC p (newSize z) 0 SV.nil, slc tPf true SV.nil [], fsC []] := by
 refine Does.of Tryz.func37 rfl Tryz.ntmps37 rfl rfl fun F => ?_
 refine J.norm ?_
 refine Sr ?_
 refine Lq (Q_assign rfl) ?_
 refine Ln ?_
 refine Sr ?_
 refine Lq (Q_move rfl) ?_
 refine Lq (Q_max2 rfl rfl) ?_
 refine Lq ((Q_min2 rfl rfl).as (congrArg (Value.int .i64) (newSize_eq z))) ?_
 refine Lq (Q_build rfl) ?_
 refine L_o rfl rfl rfl (O_box rfl fun b7 => ?_)
 refine Lq (Q_assign rfl) ?_
 refine Ln ?_
 refine J_ret ?_
 refine retQ_ret _ [segC b7 (newSize z) 0 SV.nil, slc tPf true SV.nil [], fsC []] (.cons (RV_tmp rfl) .nil) ⟨b7, rfl, rfl⟩ ?_
 refine (Ent.mk fun _ _ h => (h.lay_nil tPf true : Sat _ _ (slc tPf true SV.nil [] :: _))).trans ?_
 exact (Ent.stars_nil (L := _)).trans (Ent.re [2,1,0,3] rfl)
section
variable (E : World) (p : Nat) (g : Lg) (S : SV) (ps : List Fp) (c : Nat)
end
end Go.Proofs
/- What is played on a disk, and what a crash leaves: plain laws. -/
set_option autoImplicit false
namespace Go.Proofs
theorem torn_get (keep s : Nat) (b : List UInt8) (k i : Nat) (h : i < s ∨ kb keep s i = true) : (torn keep s b k)[i]? = b[i]? := by
 simp only [torn, List.getElem?_mapIdx]
 cases b[i]? with
 | none => rfl
 | some x =>
  simp only [Option.map_some, Option.some.injEq]
  rcases h with h | h
  ·rw [if_neg (by omega)]
  ·rw [if_neg (by rw [h]; simp)]
/-- What was synced stays. -/
theorem tear_sure (d : Dk) (keep : Nat) : (tear d keep).take d.s = d.b.take d.s := by
 have he := endTo_le keep d.s (d.b.length - d.s)
 unfold tear
 rw [List.take_take, Nat.min_eq_left he.1]
 apply List.ext_getElem?
 intro i
 rw [List.getElem?_take, List.getElem?_take]
 split
 ·rename_i hi; exact torn_get _ _ _ _ _ (.inl hi)
 ·rfl
theorem endTo_kept (keep s : Nat) (hm : ∀ i j, i ≤ j → kb keep s (s + j) = true → kb keep s (s + i) = true) : ∀ k i, s ≤ i → i < endTo keep s k → kb keep s i = true
 | 0, i, h1, h2 => by simp only [endTo] at h2; omega
 | k + 1, i, h1, h2 => by
  simp only [endTo] at h2
  split at h2
  ·rename_i hk
   have := hm (i - s) k (by omega) hk
   rwa [show s + (i - s) = i by omega] at this
  ·exact endTo_kept keep s hm k i h1 h2
/-- A crash without gaps leaves a beginning. -/
theorem tear_begin (d : Dk) (keep : Nat) (hm : ∀ i j, i ≤ j → kb keep d.s (d.s + j) = true → kb keep d.s (d.s + i) = true) : tear d keep = d.b.take (endTo keep d.s (d.b.length - d.s)) := by
 unfold tear
 apply List.ext_getElem?
 intro i
 rw [List.getElem?_take, List.getElem?_take]
 split
 ·rename_i hi
  apply torn_get
  by_cases h : i < d.s
  ·exact .inl h
  ·exact .inr (endTo_kept keep d.s hm _ i (by omega) hi)
 ·rfl
theorem bits_full (k i : Nat) : ((2 ^ k - 1) >>> i % 2 == 1) = decide (i < k) := by
 have h := Nat.testBit_two_pow_sub_one k i
 rw [Nat.testBit_eq_decide_div_mod_eq] at h
 rw [Nat.shiftRight_eq_div_pow]
 by_cases hi : i < k
 ·simp only [hi, decide_true, decide_eq_true_eq] at h
  simp [h, hi]
 ·simp only [hi, decide_false, decide_eq_false_iff_not] at h
  simp [h, hi]
theorem kb_full (k s i : Nat) : kb (2 ^ k - 1) s i = (decide (i / 64 - s / 64 < 64) && decide (i / 64 - s / 64 < k)) := by
 unfold kb; rw [bits_full]
theorem kb_mono (k s : Nat) : ∀ i j, i ≤ j → kb (2 ^ k - 1) s (s + j) = true → kb (2 ^ k - 1) s (s + i) = true := by
 intro i j hij h
 rw [kb_full] at h ⊢
 simp only [Bool.and_eq_true, decide_eq_true_eq] at h ⊢
 omega
end Go.Proofs
