/- Part 1 of the texts below the row: Wd. -/
import Derived.KernelRfl
/- Words for runs of steps that stand often: each takes these very steps, and leaves the goal behind them. -/
set_option autoImplicit false
namespace Go
/-- What is left to show, hidden from those that look over what is known. -/
structure HQ (q : Prop) : Prop where
  v : q
variable {p q : Prop}
theorem Xa (h : q) (f : HQ q → p := by intro qq; refine JS.norm ?_; exact qq.1) : p := f ⟨h⟩
theorem Xb (h : q) (f : HQ q → p := by intro qq; refine J.norm ?_; refine Sr ?_; exact qq.1) : p := f ⟨h⟩
theorem Xc (h : q) (f : HQ q → p := by intro qq; refine JL.norm ?_; exact qq.1) : p := f ⟨h⟩
theorem Xd (h : q) (f : HQ q → p := by intro qq; refine Lq (Q_move rfl) ?_; exact qq.1) : p := f ⟨h⟩
theorem Xe (h : q) (f : HQ q → p := by intro qq; refine Xh ?_; refine Xd ?_; exact qq.1) : p := f ⟨h⟩
theorem Xf (h : q) (f : HQ q → p := by intro qq; refine Xd ?_; refine Xd ?_; exact qq.1) : p := f ⟨h⟩
theorem Xg (h : q) (f : HQ q → p := by intro qq; refine Sr ?_; refine Xd ?_; exact qq.1) : p := f ⟨h⟩
theorem Xh (h : q) (f : HQ q → p := by intro qq; refine J_region ?_; exact qq.1) : p := f ⟨h⟩
theorem Xi (h : q) (f : HQ q → p := by intro qq; refine XaN ?_; refine Ln ?_; exact qq.1) : p := f ⟨h⟩
theorem Xj (h : q) (f : HQ q → p := by intro qq; refine XaN ?_; refine JL_nil ?_; exact qq.1) : p := f ⟨h⟩
theorem Xk (h : q) (f : HQ q → p := by intro qq; refine Lq (Q_build rfl) ?_; exact qq.1) : p := f ⟨h⟩
theorem Xl (h : q) (f : HQ q → p := by intro qq; refine Xh ?_; refine Xf ?_; exact qq.1) : p := f ⟨h⟩
theorem Xm (h : q) (f : HQ q → p := by intro qq; refine Ln ?_; refine J_condT rfl ?_; exact qq.1) : p := f ⟨h⟩
theorem Xn (h : q) (f : HQ q → p := by intro qq; refine Xi ?_; refine J_seq ?_; exact qq.1) : p := f ⟨h⟩
theorem Xo (h : q) (f : HQ q → p := by intro qq; refine Sr ?_; refine X1 ?_; exact qq.1) : p := f ⟨h⟩
theorem Xp (h : q) (f : HQ q → p := by intro qq; refine Lq (Q_pickF rfl rfl) ?_; exact qq.1) : p := f ⟨h⟩
theorem Xq (h : q) (f : HQ q → p := by intro qq; refine Xi ?_; refine J_ret ?_; exact qq.1) : p := f ⟨h⟩
theorem Xr (h : q) (f : HQ q → p := by intro qq; refine Xc ?_; refine Ln ?_; exact qq.1) : p := f ⟨h⟩
theorem Xs (h : q) (f : HQ q → p := by intro qq; refine XaN ?_; refine Xi ?_; exact qq.1) : p := f ⟨h⟩
theorem Xt (h : q) (f : HQ q → p := by intro qq; refine Ln ?_; refine J_seq ?_; exact qq.1) : p := f ⟨h⟩
theorem Xu (h : q) (f : HQ q → p := by intro qq; refine S_nil ?_; refine seqQ_normal ?_; exact qq.1) : p := f ⟨h⟩
theorem Xv (h : q) (f : HQ q → p := by intro qq; refine Xg ?_; refine Xd ?_; exact qq.1) : p := f ⟨h⟩
theorem Xw (h : q) (f : HQ q → p := by intro qq; refine J_seq ?_; refine Xg ?_; exact qq.1) : p := f ⟨h⟩
theorem Xx (h : q) (f : HQ q → p := by intro qq; refine Xi ?_; refine Xg ?_; exact qq.1) : p := f ⟨h⟩
theorem Xy (h : q) (f : HQ q → p := by intro qq; refine X2 ?_; refine XS ?_; exact qq.1) : p := f ⟨h⟩
theorem Xz (h : q) (f : HQ q → p := by intro qq; refine L_s rfl rfl (O_stW 0 rfl rfl rfl rfl ?_); refine Xc ?_; exact qq.1) : p := f ⟨h⟩
theorem XA (h : q) (f : HQ q → p := by intro qq; refine Xn ?_; refine Xg ?_; exact qq.1) : p := f ⟨h⟩
theorem XB (h : q) (f : HQ q → p := by intro qq; refine Xz ?_; refine Xt ?_; exact qq.1) : p := f ⟨h⟩
theorem XC (h : q) (f : HQ q → p := by intro qq; refine Xi ?_; refine Sr ?_; exact qq.1) : p := f ⟨h⟩
theorem XD (h : q) (f : HQ q → p := by intro qq; refine Lq (Q_fa0 rfl) ?_; exact qq.1) : p := f ⟨h⟩
theorem XE (h : q) (f : HQ q → p := by intro qq; refine Lq (Q_ld 1 rfl rfl rfl rfl) ?_; exact qq.1) : p := f ⟨h⟩
theorem XF (h : q) (f : HQ q → p := by intro qq; refine Xi ?_; refine J_condF rfl ?_; exact qq.1) : p := f ⟨h⟩
theorem XG (h : q) (f : HQ q → p := by intro qq; refine Xz ?_; refine Ln ?_; exact qq.1) : p := f ⟨h⟩
theorem XH (h : q) (f : HQ q → p := by intro qq; refine XaO ?_; refine Xcm ?_; exact qq.1) : p := f ⟨h⟩
theorem XI (h : q) (f : HQ q → p := by intro qq; refine Lq (Q_ldA 1 rfl rfl rfl) ?_; exact qq.1) : p := f ⟨h⟩
theorem XJ (h : q) (f : HQ q → p := by intro qq; refine Xd ?_; refine XP ?_; exact qq.1) : p := f ⟨h⟩
theorem XK (h : q) (f : HQ q → p := by intro qq; refine Xd ?_; refine Xcm ?_; exact qq.1) : p := f ⟨h⟩
theorem XL (h : q) (f : HQ q → p := by intro qq; refine Lq (Q_nilCheck rfl) ?_; refine XD ?_; exact qq.1) : p := f ⟨h⟩
theorem XM (h : q) (f : HQ q → p := by intro qq; refine Sr ?_; refine XI ?_; exact qq.1) : p := f ⟨h⟩
theorem XN (h : q) (f : HQ q → p := by intro qq; refine Lq (Q_slen rfl) ?_; exact qq.1) : p := f ⟨h⟩
theorem XO (h : q) (f : HQ q → p := by intro qq; refine Lq (Q_lenAt 0 rfl rfl) ?_; exact qq.1) : p := f ⟨h⟩
theorem XP (h : q) (f : HQ q → p := by intro qq; refine Ln ?_; refine J_block ?_; exact qq.1) : p := f ⟨h⟩
theorem XQ (h : q) (f : HQ q → p := by intro qq; refine Xc ?_; refine Xt ?_; exact qq.1) : p := f ⟨h⟩
theorem XR (h : q) (f : HQ q → p := by intro qq; refine Sr ?_; refine XaW ?_; refine J_seq ?_; refine Xac ?_; refine Xg ?_; exact qq.1) : p := f ⟨h⟩
theorem XS (h : q) (f : HQ q → p := by intro qq; refine J_skip ?_; refine seqQ_normal ?_; exact qq.1) : p := f ⟨h⟩
theorem XT (h : q) (f : HQ q → p := by intro qq; refine Xi ?_; refine Xv ?_; exact qq.1) : p := f ⟨h⟩
theorem XU (h : q) (f : HQ q → p := by intro qq; refine Sq (Ent.re [0] rfl) rfl (Q_move rfl) ?_; exact qq.1) : p := f ⟨h⟩
theorem XV (h : q) (f : HQ q → p := by intro qq; refine blockQ_normal ?_; refine seqQ_normal ?_; exact qq.1) : p := f ⟨h⟩
theorem XW (h : q) (f : HQ q → p := by intro qq; refine Sr ?_; refine Xk ?_; exact qq.1) : p := f ⟨h⟩
theorem XX (h : q) (f : HQ q → p := by intro qq; refine Lq (Q_lenAt 1 rfl rfl) ?_; exact qq.1) : p := f ⟨h⟩
theorem XY (h : q) (f : HQ q → p := by intro qq; refine blockQ_ret ?_; refine seqQ_ret ?_; exact qq.1) : p := f ⟨h⟩
theorem XZ (h : q) (f : HQ q → p := by intro qq; refine Sr ?_; refine X0 ?_; exact qq.1) : p := f ⟨h⟩
theorem X0 (h : q) (f : HQ q → p := by intro qq; refine Lq (Q_ldA 2 rfl rfl rfl) ?_; exact qq.1) : p := f ⟨h⟩
theorem X1 (h : q) (f : HQ q → p := by intro qq; refine Lq (Q_ldA 0 rfl rfl rfl) ?_; exact qq.1) : p := f ⟨h⟩
theorem X2 (h : q) (f : HQ q → p := by intro qq; refine Ln ?_; refine J_condF rfl ?_; exact qq.1) : p := f ⟨h⟩
theorem X3 (h : q) (f : HQ q → p := by intro qq; refine Sr ?_; refine XD ?_; exact qq.1) : p := f ⟨h⟩
theorem X4 (h : q) (f : HQ q → p := by intro qq; refine Sq (Ent.re [2] rfl) rfl (Q_move rfl) ?_; exact qq.1) : p := f ⟨h⟩
theorem X5 (h : q) (f : HQ q → p := by intro qq; refine J_seq ?_; refine J_block ?_; exact qq.1) : p := f ⟨h⟩
theorem X6 (h : q) (f : HQ q → p := by intro qq; refine Xc ?_; refine JL_nil ?_; exact qq.1) : p := f ⟨h⟩
theorem X7 (h : q) (f : HQ q → p := by intro qq; refine Xf ?_; refine Xd ?_; exact qq.1) : p := f ⟨h⟩
theorem X8 (h : q) (f : HQ q → p := by intro qq; refine XV ?_; refine Xh ?_; exact qq.1) : p := f ⟨h⟩
theorem X9 (h : q) (f : HQ q → p := by intro qq; refine Xaj ?_; refine Xd ?_; exact qq.1) : p := f ⟨h⟩
theorem Xaa (h : q) (f : HQ q → p := by intro qq; refine Xc ?_; refine Xq ?_; exact qq.1) : p := f ⟨h⟩
theorem Xab (h : q) (f : HQ q → p := by intro qq; refine Xs ?_; refine Xv ?_; exact qq.1) : p := f ⟨h⟩
theorem Xac (h : q) (f : HQ q → p := by intro qq; refine J_condT rfl ?_; refine XS ?_; refine X5 ?_; exact qq.1) : p := f ⟨h⟩
theorem Xad (h : q) (f : HQ q → p := by intro qq; refine J_seq ?_; refine Xv ?_; exact qq.1) : p := f ⟨h⟩
theorem Xae (h : q) (f : HQ q → p := by intro qq; refine Xct ?_; refine Xb6 ?_; exact qq.1) : p := f ⟨h⟩
theorem Xaf (h : q) (f : HQ q → p := by intro qq; refine Sr ?_; refine Xq ?_; exact qq.1) : p := f ⟨h⟩
theorem Xag (h : q) (f : HQ q → p := by intro qq; refine Xy ?_; refine Xg ?_; exact qq.1) : p := f ⟨h⟩
theorem Xah (h : q) (f : HQ q → p := by intro qq; refine Lq (Q_pickT rfl rfl) ?_; exact qq.1) : p := f ⟨h⟩
theorem Xai (h : q) (f : HQ q → p := by intro qq; refine Lq ((Q_eql rfl rfl).as (v' := .bool true) rfl) ?_; exact qq.1) : p := f ⟨h⟩
theorem Xaj (h : q) (f : HQ q → p := by intro qq; refine Lq (Q_nilCheck rfl) ?_; refine XaF ?_; exact qq.1) : p := f ⟨h⟩
theorem Xak (h : q) (f : HQ q → p := by intro qq; refine XaG ?_; refine XaE ?_; exact qq.1) : p := f ⟨h⟩
theorem Xal (h : q) (f : HQ q → p := by intro qq; refine Xdo ?_; refine Xg ?_; exact qq.1) : p := f ⟨h⟩
theorem Xam (h : q) (f : HQ q → p := by intro qq; refine Xs ?_; refine Xg ?_; exact qq.1) : p := f ⟨h⟩
theorem Xan (h : q) (f : HQ q → p := by intro qq; refine Xp ?_; refine Xy ?_; exact qq.1) : p := f ⟨h⟩
theorem Xao (h : q) (f : HQ q → p := by intro qq; refine seqD_normal ?_; refine JD_seq ?_; exact qq.1) : p := f ⟨h⟩
theorem Xap (h : q) (f : HQ q → p := by intro qq; refine Xq ?_; refine seqQ_ret ?_; exact qq.1) : p := f ⟨h⟩
theorem Xaq (h : q) (f : HQ q → p := by intro qq; refine Xa ?_; refine S_nil ?_; exact qq.1) : p := f ⟨h⟩
theorem Xar (h : q) (f : HQ q → p := by intro qq; refine Xau ?_; refine XaY ?_; exact qq.1) : p := f ⟨h⟩
theorem Xas (h : q) (f : HQ q → p := by intro qq; refine X6 ?_; refine XV ?_; exact qq.1) : p := f ⟨h⟩
theorem Xat (h : q) (f : HQ q → p := by intro qq; refine Lq ((Q_lss rfl rfl).as (v' := .bool false) rfl) ?_; exact qq.1) : p := f ⟨h⟩
theorem Xau (h : q) (f : HQ q → p := by intro qq; refine S_s rfl rfl rfl (O_stW 0 rfl rfl rfl rfl ⟨[], free_no (by kernel_rfl), ?_⟩); refine Xa ?_; exact qq.1) : p := f ⟨h⟩
theorem Xav (h : q) (f : HQ q → p := by intro qq; refine Xc ?_; refine XbO ?_; exact qq.1) : p := f ⟨h⟩
theorem Xaw (h : q) (f : HQ q → p := by intro qq; refine XL ?_; refine L_s rfl rfl (O_st1 0 rfl rfl rfl rfl rfl ?_); exact qq.1) : p := f ⟨h⟩
theorem Xax (h : q) (f : HQ q → p := by intro qq; refine Xu ?_; refine J_condF rfl ?_; exact qq.1) : p := f ⟨h⟩
theorem Xay (h : q) (f : HQ q → p := by intro qq; refine Xy ?_; refine J_seq ?_; exact qq.1) : p := f ⟨h⟩
theorem Xaz (h : q) (f : HQ q → p := by intro qq; refine Sr ?_; refine XaW ?_; refine J_seq ?_; refine Xac ?_; refine Sr ?_; exact qq.1) : p := f ⟨h⟩
theorem XaA (h : q) (f : HQ q → p := by intro qq; refine Xa8 ?_; refine Xbr ?_; refine seqQ_normal ?_; exact qq.1) : p := f ⟨h⟩
theorem XaB (h : q) (f : HQ q → p := by intro qq; refine Sq (Ent.re [0,2] rfl) rfl (Q_move rfl) ?_; exact qq.1) : p := f ⟨h⟩
theorem XaC (h : q) (f : HQ q → p := by intro qq; refine Sq (Ent.re [0,1] rfl) rfl (Q_move rfl) ?_; exact qq.1) : p := f ⟨h⟩
theorem XaD (h : q) (f : HQ q → p := by intro qq; refine Lq ((Q_pickT rfl rfl)) ?_; exact qq.1) : p := f ⟨h⟩
theorem XaE (h : q) (f : HQ q → p := by intro qq; refine Sq (Ent.re [0] rfl) rfl (Q_nilCheck rfl) ?_; exact qq.1) : p := f ⟨h⟩
theorem XaF (h : q) (f : HQ q → p := by intro qq; refine XD ?_; refine XbM ?_; exact qq.1) : p := f ⟨h⟩
theorem XaG (h : q) (f : HQ q → p := by intro qq; refine XU ?_; refine XU ?_; exact qq.1) : p := f ⟨h⟩
theorem XaH (h : q) (f : HQ q → p := by intro qq; refine Xcx ?_; refine Xr ?_; exact qq.1) : p := f ⟨h⟩
theorem XaI (h : q) (f : HQ q → p := by intro qq; refine X2 ?_; refine J_skip ?_; exact qq.1) : p := f ⟨h⟩
theorem XaJ (h : q) (f : HQ q → p := by intro qq; refine Xc ?_; refine Xn ?_; exact qq.1) : p := f ⟨h⟩
theorem XaK (h : q) (f : HQ q → p := by intro qq; refine Xs ?_; refine J_seq ?_; exact qq.1) : p := f ⟨h⟩
theorem XaL (h : q) (f : HQ q → p := by intro qq; refine Xb ?_; refine Xx ?_; exact qq.1) : p := f ⟨h⟩
theorem XaM (h : q) (f : HQ q → p := by intro qq; refine Lq (Q_add rfl rfl (by first | exact IntWalk.i64_in _ (by omega) | exact IntWalk.u8_in _ (by omega) | exact IntWalk.u32_in _ (by omega) | exact IntWalk.u64_in _ (by omega) | rfl)) ?_; exact qq.1) : p := f ⟨h⟩
theorem XaN (h : q) (f : HQ q → p := by intro qq; refine Lq (Q_assign rfl) ?_; exact qq.1) : p := f ⟨h⟩
theorem XaO (h : q) (f : HQ q → p := by intro qq; refine Xc ?_; refine Xd ?_; exact qq.1) : p := f ⟨h⟩
theorem XaP (h : q) (f : HQ q → p := by intro qq; refine Xah ?_; refine Xm ?_; exact qq.1) : p := f ⟨h⟩
theorem XaQ (h : q) (f : HQ q → p := by intro qq; refine Xbq ?_; refine Xy ?_; exact qq.1) : p := f ⟨h⟩
theorem XaR (h : q) (f : HQ q → p := by intro qq; refine Xi ?_; refine J_condT rfl ?_; exact qq.1) : p := f ⟨h⟩
theorem XaS (h : q) (f : HQ q → p := by intro qq; refine X8 ?_; refine Xbu ?_; exact qq.1) : p := f ⟨h⟩
theorem XaT (h : q) (f : HQ q → p := by intro qq; refine Sr ?_; refine XaF ?_; exact qq.1) : p := f ⟨h⟩
theorem XaU (h : q) (f : HQ q → p := by intro qq; refine Lq (Q_ldA 4 rfl rfl rfl) ?_; exact qq.1) : p := f ⟨h⟩
theorem XaV (h : q) (f : HQ q → p := by intro qq; refine Sq (Ent.re [0] rfl) rfl (Q_ldA 0 rfl rfl rfl) ?_; exact qq.1) : p := f ⟨h⟩
theorem XaW (h : q) (f : HQ q → p := by intro qq; refine Xdz ?_; refine Ln ?_; exact qq.1) : p := f ⟨h⟩
theorem XaX (h : q) (f : HQ q → p := by intro qq; refine XbQ ?_; refine Sq (Ent.re [0] rfl) rfl (Q_ld 0 rfl rfl rfl rfl) ?_; exact qq.1) : p := f ⟨h⟩
theorem XaY (h : q) (f : HQ q → p := by intro qq; refine Xu ?_; refine J_seq ?_; exact qq.1) : p := f ⟨h⟩
theorem XaZ (h : q) (f : HQ q → p := by intro qq; refine Sr ?_; refine L_o rfl rfl rfl (O_callP (haw) rfl ?_); exact qq.1) : p := f ⟨h⟩
theorem Xa0 (h : q) (f : HQ q → p := by intro qq; refine X8 ?_; refine XaM ?_; refine Xd ?_; refine JL_nil ?_; exact qq.1) : p := f ⟨h⟩
theorem Xa1 (h : q) (f : HQ q → p := by intro qq; refine J_ret ?_; refine seqQ_ret ?_; exact qq.1) : p := f ⟨h⟩
theorem Xa2 (h : q) (f : HQ q → p := by intro qq; refine Xau ?_; refine Xc4 ?_; refine XaY ?_; exact qq.1) : p := f ⟨h⟩
theorem Xa3 (h : q) (f : HQ q → p := by intro qq; refine XaO ?_; refine Lq (Q_extract rfl rfl) ?_; refine Lq (Q_extract rfl rfl) ?_; exact qq.1) : p := f ⟨h⟩
theorem Xa4 (h : q) (f : HQ q → p := by intro qq; refine Sr ?_; refine Xi ?_; refine J_block ?_; exact qq.1) : p := f ⟨h⟩
theorem Xa5 (h : q) (f : HQ q → p := by intro qq; refine Lq (Q_ldA 3 rfl rfl rfl) ?_; exact qq.1) : p := f ⟨h⟩
theorem Xa6 (h : q) (f : HQ q → p := by intro qq; refine Lq (Q_b2s tB_enc (fun w h => h.rd 0 rfl) rfl) ?_; exact qq.1) : p := f ⟨h⟩
theorem Xa7 (h : q) (f : HQ q → p := by intro qq; refine L_n rfl rfl rfl ?_; refine L_n rfl rfl rfl ?_; exact qq.1) : p := f ⟨h⟩
theorem Xa8 (h : q) (f : HQ q → p := by intro qq; refine J_exit ?_; refine seqQ_exit ?_; exact qq.1) : p := f ⟨h⟩
theorem Xa9 (h : q) (f : HQ q → p := by intro qq; refine blockQ_miss rfl ?_; refine seqQ_exit ?_; exact qq.1) : p := f ⟨h⟩
theorem Xba (h : q) (f : HQ q → p := by intro qq; refine XO ?_; refine XJ ?_; exact qq.1) : p := f ⟨h⟩
theorem Xbb (h : q) (f : HQ q → p := by intro qq; refine Xdl ?_; refine Xb6 ?_; exact qq.1) : p := f ⟨h⟩
theorem Xbc (h : q) (f : HQ q → p := by intro qq; refine XY ?_; refine loopQ_ret ?_; exact qq.1) : p := f ⟨h⟩
theorem Xbd (h : q) (f : HQ q → p := by intro qq; refine Xc4 ?_; refine Xu ?_; exact qq.1) : p := f ⟨h⟩
theorem Xbe (h : q) (f : HQ q → p := by intro qq; refine J_skip ?_; refine XV ?_; exact qq.1) : p := f ⟨h⟩
theorem Xbf (h : q) (f : HQ q → p := by intro qq; refine Xc ?_; refine XA ?_; exact qq.1) : p := f ⟨h⟩
theorem Xbg (h : q) (f : HQ q → p := by intro qq; refine Xa ?_; refine Xu ?_; exact qq.1) : p := f ⟨h⟩
theorem Xbh (h : q) (f : HQ q → p := by intro qq; refine XG ?_; refine J_ret ?_; exact qq.1) : p := f ⟨h⟩
theorem Xbi (h : q) (f : HQ q → p := by intro qq; refine JL_nil ?_; refine Xao ?_; exact qq.1) : p := f ⟨h⟩
theorem Xbj (h : q) (f : HQ q → p := by intro qq; refine Xn ?_; refine J_seq ?_; exact qq.1) : p := f ⟨h⟩
theorem Xbk (h : q) (f : HQ q → p := by intro qq; refine Xbb ?_; refine Sr ?_; exact qq.1) : p := f ⟨h⟩
theorem Xbl (h : q) (f : HQ q → p := by intro qq; refine Xi ?_; refine Xl ?_; exact qq.1) : p := f ⟨h⟩
theorem Xbm (h : q) (f : HQ q → p := by intro qq; refine Xs ?_; refine Xw ?_; exact qq.1) : p := f ⟨h⟩
theorem Xbn (h : q) (f : HQ q → p := by intro qq; refine Xr ?_; refine Xg ?_; exact qq.1) : p := f ⟨h⟩
theorem Xbo (h : q) (f : HQ q → p := by intro qq; refine Lq ((Q_eql rfl rfl).as (v' := .bool false) rfl) ?_; exact qq.1) : p := f ⟨h⟩
theorem Xbp (h : q) (f : HQ q → p := by intro qq; refine Sq (Ent.re [0] rfl) rfl (Q_xorW rfl rfl) ?_; exact qq.1) : p := f ⟨h⟩
theorem Xbq (h : q) (f : HQ q → p := by intro qq; refine Lq (Q_neq rfl rfl) ?_; exact qq.1) : p := f ⟨h⟩
theorem Xbr (h : q) (f : HQ q → p := by intro qq; refine loopQ_exit ?_; refine blockQ_hit ?_; exact qq.1) : p := f ⟨h⟩
theorem Xbs (h : q) (f : HQ q → p := by intro qq; refine Sq (Ent.re [2] rfl) rfl (Q_ld 0 rfl rfl rfl rfl) ?_; refine X4 ?_; exact qq.1) : p := f ⟨h⟩
theorem Xbt (h : q) (f : HQ q → p := by intro qq; refine Sq (Ent.refl _) rfl (Q_move rfl) ?_; refine Sq (Ent.refl _) rfl (Q_nilCheck rfl) ?_; exact qq.1) : p := f ⟨h⟩
theorem Xbu (h : q) (f : HQ q → p := by intro qq; refine Lq ((Q_add rfl rfl (IntWalk.i64_in _ (by omega))).as (v' := .int .i64 ((i + 1 : Nat) : Int)) rfl) ?_; refine Xd ?_; refine JL_nil ?_; exact qq.1) : p := f ⟨h⟩
theorem Xbv (h : q) (f : HQ q → p := by intro qq; refine Xd ?_; refine X0 ?_; exact qq.1) : p := f ⟨h⟩
theorem Xbw (h : q) (f : HQ q → p := by intro qq; refine JD_region ?_; refine Xd ?_; exact qq.1) : p := f ⟨h⟩
theorem Xbx (h : q) (f : HQ q → p := by intro qq; refine Xd ?_; refine XaF ?_; exact qq.1) : p := f ⟨h⟩
theorem Xby (h : q) (f : HQ q → p := by intro qq; refine Ln ?_; refine Sr ?_; exact qq.1) : p := f ⟨h⟩
theorem Xbz (h : q) (f : HQ q → p := by intro qq; refine Xs ?_; refine J_ret ?_; exact qq.1) : p := f ⟨h⟩
theorem XbA (h : q) (f : HQ q → p := by intro qq; refine J_condF rfl ?_; refine Xa8 ?_; refine Xbr ?_; exact qq.1) : p := f ⟨h⟩
theorem XbB (h : q) (f : HQ q → p := by intro qq; refine Xb ?_; refine XA ?_; exact qq.1) : p := f ⟨h⟩
theorem XbC (h : q) (f : HQ q → p := by intro qq; refine Sq (Ent.re [0] rfl) rfl (Q_addW rfl rfl) ?_; exact qq.1) : p := f ⟨h⟩
theorem XbD (h : q) (f : HQ q → p := by intro qq; refine Sq (Ent.re [] rfl) rfl (Q_move rfl) ?_; exact qq.1) : p := f ⟨h⟩
theorem XbE (h : q) (f : HQ q → p := by intro qq; refine Lq ((Q_gtr rfl rfl).as (v' := .bool false) (congrArg Value.bool (decide_eq_false ((by omega))))) ?_; refine Xp ?_; exact qq.1) : p := f ⟨h⟩
theorem XbF (h : q) (f : HQ q → p := by intro qq; refine Lq ((Q_gtr rfl rfl).as (v' := .bool false) (congrArg Value.bool (decide_eq_false (by omega)))) ?_; refine Xp ?_; exact qq.1) : p := f ⟨h⟩
theorem XbG (h : q) (f : HQ q → p := by intro qq; refine Xfd ?_; refine Xd ?_; exact qq.1) : p := f ⟨h⟩
theorem XbH (h : q) (f : HQ q → p := by intro qq; refine Sq (Ent.re [2] rfl) rfl (Q_nilCheck rfl) ?_; refine XdA ?_; exact qq.1) : p := f ⟨h⟩
theorem XbI (h : q) (f : HQ q → p := by intro qq; refine XA ?_; refine Lq (Q_peql rfl rfl) ?_; exact qq.1) : p := f ⟨h⟩
theorem XbJ (h : q) (f : HQ q → p := by intro qq; refine Xb0 ?_; refine Xa7 ?_; exact qq.1) : p := f ⟨h⟩
theorem XbK (h : q) (f : HQ q → p := by intro qq; refine Sr ?_; refine Xap ?_; exact qq.1) : p := f ⟨h⟩
theorem XbL (h : q) (f : HQ q → p := by intro qq; refine Lq (Q_ia (o' := 0) 0 rfl rfl rfl (by decide) rfl) ?_; exact qq.1) : p := f ⟨h⟩
theorem XbM (h : q) (f : HQ q → p := by intro qq; refine Lq (Q_ld 0 rfl rfl rfl rfl) ?_; exact qq.1) : p := f ⟨h⟩
theorem XbN (h : q) (f : HQ q → p := by intro qq; refine Lq (Q_lenAt 2 rfl rfl) ?_; exact qq.1) : p := f ⟨h⟩
theorem XbO (h : q) (f : HQ q → p := by intro qq; refine Lq ((Q_not (b := true) rfl).as (v' := .bool false) rfl) ?_; exact qq.1) : p := f ⟨h⟩
theorem XbP (h : q) (f : HQ q → p := by intro qq; refine Lq ((Q_neq rfl rfl).as (v' := .bool false) rfl) ?_; exact qq.1) : p := f ⟨h⟩
theorem XbQ (h : q) (f : HQ q → p := by intro qq; refine Sq (Ent.re [0] rfl) rfl (Q_fa0 rfl) ?_; exact qq.1) : p := f ⟨h⟩
theorem XbR (h : q) (f : HQ q → p := by intro qq; refine Xk ?_; refine Lq (Q_geql eqgN hz rfl rfl) ?_; exact qq.1) : p := f ⟨h⟩
theorem XbS (h : q) (f : HQ q → p := by intro qq; refine X3 ?_; refine XI ?_; exact qq.1) : p := f ⟨h⟩
theorem XbT (h : q) (f : HQ q → p := by intro qq; refine XM ?_; refine X1 ?_; exact qq.1) : p := f ⟨h⟩
theorem XbU (h : q) (f : HQ q → p := by intro qq; refine Xan ?_; refine J_seq ?_; exact qq.1) : p := f ⟨h⟩
theorem XbV (h : q) (f : HQ q → p := by intro qq; refine Lq ((Q_lss rfl rfl).as (v' := .bool true) rfl) ?_; exact qq.1) : p := f ⟨h⟩
theorem XbW (h : q) (f : HQ q → p := by intro qq; refine L_s rfl rfl (O_stW 2 rfl rfl rfl rfl ?_); exact qq.1) : p := f ⟨h⟩
theorem XbX (h : q) (f : HQ q → p := by intro qq; refine Lq ((Q_lss rfl rfl).as (v' := .bool false) (congrArg Value.bool (decide_eq_false (by omega)))) ?_; exact qq.1) : p := f ⟨h⟩
theorem XbY (h : q) (f : HQ q → p := by intro qq; refine XbX ?_; refine Ln ?_; exact qq.1) : p := f ⟨h⟩
theorem XbZ (h : q) (f : HQ q → p := by intro qq; refine Xe ?_; refine XaM ?_; exact qq.1) : p := f ⟨h⟩
theorem Xb0 (h : q) (f : HQ q → p := by intro qq; refine Xd ?_; refine Xa7 ?_; exact qq.1) : p := f ⟨h⟩
theorem Xb1 (h : q) (f : HQ q → p := by intro qq; refine Xem ?_; refine Xf ?_; exact qq.1) : p := f ⟨h⟩
theorem Xb2 (h : q) (f : HQ q → p := by intro qq; refine XbX ?_; refine Xf ?_; exact qq.1) : p := f ⟨h⟩
theorem Xb3 (h : q) (f : HQ q → p := by intro qq; refine Sq (Ent.re [3,2] rfl) rfl (Q_extract rfl rfl) ?_; refine Sq (Ent.re [3,2] rfl) rfl (Q_extract rfl rfl) ?_; exact qq.1) : p := f ⟨h⟩
theorem Xb4 (h : q) (f : HQ q → p := by intro qq; refine Sq (Ent.re [3,2] rfl) rfl (Q_ld 0 rfl rfl rfl rfl) ?_; refine XdF ?_; exact qq.1) : p := f ⟨h⟩
theorem Xb5 (h : q) (f : HQ q → p := by intro qq; refine Sq (Ent.re [3,2] rfl) rfl (Q_ld 1 rfl rfl rfl rfl) ?_; refine XdF ?_; exact qq.1) : p := f ⟨h⟩
theorem Xb6 (h : q) (f : HQ q → p := by intro qq; refine J_condF rfl ?_; refine Xa8 ?_; refine Xbr ?_; refine seqQ_normal ?_; exact qq.1) : p := f ⟨h⟩
theorem Xb7 (h : q) (f : HQ q → p := by intro qq; refine XaC ?_; refine XaC ?_; exact qq.1) : p := f ⟨h⟩
theorem Xb8 (h : q) (f : HQ q → p := by intro qq; refine XbD ?_; refine XbD ?_; exact qq.1) : p := f ⟨h⟩
theorem Xb9 (h : q) (f : HQ q → p := by intro qq; refine Xa ?_; refine Sq (Ent.re [3,2] rfl) rfl (Q_assign rfl) ?_; exact qq.1) : p := f ⟨h⟩
theorem Xca (h : q) (f : HQ q → p := by intro qq; refine Xa ?_; refine XdF ?_; exact qq.1) : p := f ⟨h⟩
theorem Xcb (h : q) (f : HQ q → p := by intro qq; refine L_s rfl rfl (O_st1 1 rfl rfl rfl rfl rfl ?_); refine X6 ?_; exact qq.1) : p := f ⟨h⟩
theorem Xcc (h : q) (f : HQ q → p := by intro qq; refine DH [3,2] [0,1,2,3,4,5,6,7,9,10,11,12,14] (.quiet 0 (.quiet 1 (.quiet 2 (.quiet 3 (.quiet 4 (.quiet 5 (.quiet 6 (.quiet 7 (.loud 8 (.quiet 9 (.quiet 10 (.quiet 11 (.quiet 12 (.loud 13 (.quiet 14 .done))))))))))))))) Tryz.mixed ?_; refine XdF ?_; refine XdF ?_; exact qq.1) : p := f ⟨h⟩
theorem Xcd (h : q) (f : HQ q → p := by intro qq; refine Xh ?_; refine X1 ?_; exact qq.1) : p := f ⟨h⟩
theorem Xce (h : q) (f : HQ q → p := by intro qq; refine blockQ_hit ?_; refine seqQ_normal ?_; exact qq.1) : p := f ⟨h⟩
theorem Xcf (h : q) (f : HQ q → p := by intro qq; refine XbJ ?_; refine L_n rfl rfl rfl ?_; exact qq.1) : p := f ⟨h⟩
theorem Xcg (h : q) (f : HQ q → p := by intro qq; refine Lq ((Q_add rfl rfl (by rfl)).as (v' := .int .i64 1) rfl) ?_; refine Xd ?_; refine JL_nil ?_; exact qq.1) : p := f ⟨h⟩
theorem Xch (h : q) (f : HQ q → p := by intro qq; refine Lq (Q_ia (o' := 3) 3 rfl rfl rfl (by decide) rfl) ?_; exact qq.1) : p := f ⟨h⟩
theorem Xci (h : q) (f : HQ q → p := by intro qq; refine Lq ((Q_neq rfl rfl).as (v' := .bool false) (congrArg Value.bool (decide_eq_false (by omega)))) ?_; exact qq.1) : p := f ⟨h⟩
theorem Xcj (f : p := by exact retQ_ret _ [_] (.cons (RV_tmp rfl) .nil) ⟨rfl, rfl⟩ (Ent.refl _)) : p := f
theorem Xck (h : q) (f : HQ q → p := by intro qq; refine Sq (Ent.re [] rfl) rfl (Q_assign rfl) ?_; exact qq.1) : p := f ⟨h⟩
theorem Xcl (h : q) (f : HQ q → p := by intro qq; refine Lq ((Q_not (b := false) rfl).as (v' := .bool true) rfl) ?_; exact qq.1) : p := f ⟨h⟩
theorem Xcm (h : q) (f : HQ q → p := by intro qq; refine Lq (Q_ext20 rfl) ?_; refine Lq (Q_ext21 rfl) ?_; exact qq.1) : p := f ⟨h⟩
theorem Xcn (h : q) (f : HQ q → p := by intro qq; refine Sq (Ent.re [0,1] rfl) rfl (Q_nilCheck rfl) ?_; refine Sq (Ent.re [0,1] rfl) rfl (Q_fa0 rfl) ?_; exact qq.1) : p := f ⟨h⟩
theorem Xco (h : q) (f : HQ q → p := by intro qq; refine Sq (Ent.refl _) rfl (Q_fa0 rfl) ?_; refine Sq (Ent.refl _) rfl (Q_ld 0 rfl rfl rfl rfl) ?_; exact qq.1) : p := f ⟨h⟩
theorem Xcp (h : q) (f : HQ q → p := by intro qq; refine S_s rfl rfl rfl (O_st1 1 rfl rfl rfl rfl rfl ⟨[], free_no (by kernel_rfl), ?_⟩); refine Xa ?_; exact qq.1) : p := f ⟨h⟩
theorem Xcq (h : q) (f : HQ q → p := by intro qq; refine S_s rfl rfl rfl (O_stW 2 rfl rfl rfl rfl ⟨[], free_no (by kernel_rfl), ?_⟩); refine Xa ?_; exact qq.1) : p := f ⟨h⟩
theorem Xcr (f : p := by refine Xq ?_; exact Xe9) : p := f
theorem Xcs (h : q) (f : HQ q → p := by intro qq; refine Sq (Ent.re [2] rfl) rfl (Q_assign rfl) ?_; refine Sq (Ent.re [2] rfl) rfl (Q_assign rfl) ?_; exact qq.1) : p := f ⟨h⟩
theorem Xct (h : q) (f : HQ q → p := by intro qq; refine Sr ?_; refine XbY ?_; refine J_seq ?_; exact qq.1) : p := f ⟨h⟩
theorem Xcu (h : q) (f : HQ q → p := by intro qq; refine XaO ?_; refine Lq (Q_extract (v := d.v) rfl rfl) ?_; exact qq.1) : p := f ⟨h⟩
theorem Xcv (h : q) (f : HQ q → p := by intro qq; refine Xb0 ?_; refine L_n rfl rfl rfl ?_; exact qq.1) : p := f ⟨h⟩
theorem Xcw (f : p := by refine Xa ?_; refine Xbd ?_; exact XdH) : p := f
theorem Xcx (h : q) (f : HQ q → p := by intro qq; refine L_s rfl rfl (O_stW 1 rfl rfl rfl rfl ?_); exact qq.1) : p := f ⟨h⟩
theorem Xcy (h : q) (f : HQ q → p := by intro qq; refine L_o rfl rfl rfl (O_callP (hc) rfl ?_); exact qq.1) : p := f ⟨h⟩
theorem Xcz (h : q) (f : HQ q → p := by intro qq; refine Lq ((Q_geq rfl rfl).as (v' := .bool false) rfl) ?_; exact qq.1) : p := f ⟨h⟩
theorem XcA (h : q) (f : HQ q → p := by intro qq; refine Lq (Q_sub rfl rfl (by first | exact IntWalk.i64_in _ (by omega) | exact IntWalk.u8_in _ (by omega) | exact IntWalk.u32_in _ (by omega) | exact IntWalk.u64_in _ (by omega) | rfl)) ?_; exact qq.1) : p := f ⟨h⟩
theorem XcB (h : q) (f : HQ q → p := by intro qq; refine Lq ((Q_eql rfl rfl).as (v' := .bool false) (congrArg Value.bool (decide_eq_false (by omega)))) ?_; exact qq.1) : p := f ⟨h⟩
theorem XcC (h : q) (f : HQ q → p := by intro qq; refine Lq ((Q_neq rfl rfl).as (v' := .bool false) (congrArg Value.bool (decide_eq_false ((by omega))))) ?_; exact qq.1) : p := f ⟨h⟩
theorem XcD (h : q) (f : HQ q → p := by intro qq; refine Sq (Ent.re [2,3,5,7] rfl) rfl (Q_move rfl) ?_; exact qq.1) : p := f ⟨h⟩
theorem XcE (h : q) (f : HQ q → p := by intro qq; refine Sq (Ent.re [1] rfl) rfl (Q_move rfl) ?_; exact qq.1) : p := f ⟨h⟩
theorem XcF (h : q) (f : HQ q → p := by intro qq; refine J.ent (Ent.mk fun _ _ h => (h.lay_nil tB true : Sat _ _ (slc tB true SV.nil [] :: _))) ?_; exact qq.1) : p := f ⟨h⟩
theorem XcG (h : q) (f : HQ q → p := by intro qq; refine F_q (Ent.re [0,1,2,4,5] rfl) rfl (Q_ldA 2 rfl rfl rfl) rfl rfl rfl ?_; refine F_q (Ent.re [0,1,2,4,5] rfl) rfl (Q_fa0 rfl) rfl rfl rfl ?_; exact qq.1) : p := f ⟨h⟩
theorem XcH (h : q) (f : HQ q → p := by intro qq; refine F_q (Ent.re [2,3,4,6,7] rfl) rfl (Q_fa0 rfl) rfl rfl rfl ?_; refine F_q (Ent.re [2,3,4,6,7] rfl) rfl (Q_ldA 4 rfl rfl rfl) rfl rfl rfl ?_; exact qq.1) : p := f ⟨h⟩
theorem XcI (h : q) (f : HQ q → p := by intro qq; refine F_q (Ent.re [0,2,3] rfl) rfl (Q_fa0 rfl) rfl rfl rfl ?_; refine F_q (Ent.re [0,2,3] rfl) rfl (Q_ldA 1 rfl rfl rfl) rfl rfl rfl ?_; exact qq.1) : p := f ⟨h⟩
theorem XcJ (f : p := by refine J_ret ?_; exact Xf3) : p := f
theorem XcK (h : q) (f : HQ q → p := by intro qq; refine Sq (Ent.re [0,1] rfl) rfl (Q_fa0 rfl) ?_; refine Sq (Ent.re [0,1] rfl) rfl (Q_ld 0 rfl rfl rfl rfl) ?_; exact qq.1) : p := f ⟨h⟩
theorem XcL (f : p := by refine Xq ?_; exact retQ_ret [_] [] (.cons (RV_tmp rfl) .nil) ⟨rfl, rfl⟩ (Ent.re [1] rfl)) : p := f
theorem XcM (f : p := by refine XdO ?_; refine J_ret ?_; exact Xe9) : p := f
theorem XcN (f : p := by refine XG ?_; refine J_ret ?_; exact retQ_ret _ [] (.cons (RV_cell 0 rfl rfl rfl rfl) .nil) ⟨rfl, rfl⟩ (Ent.re [1] rfl)) : p := f
theorem XcO (h : q) (f : HQ q → p := by intro qq; refine Sq (Ent.re [3,2] rfl) rfl (Q_ia (o' := 0) 0 rfl rfl rfl (by decide) rfl) ?_; exact qq.1) : p := f ⟨h⟩
theorem XcP (h : q) (f : HQ q → p := by intro qq; refine Sq (Ent.re [3,2] rfl) rfl (Q_ia (o' := 1) 1 rfl rfl rfl (by decide) rfl) ?_; exact qq.1) : p := f ⟨h⟩
theorem XcQ (h : q) (f : HQ q → p := by intro qq; refine Sq (Ent.re [3,2] rfl) rfl (Q_ia (o' := 2) 2 rfl rfl rfl (by decide) rfl) ?_; exact qq.1) : p := f ⟨h⟩
theorem XcR (h : q) (f : HQ q → p := by intro qq; refine Sq (Ent.re [3,2] rfl) rfl (Q_ia (o' := 3) 3 rfl rfl rfl (by decide) rfl) ?_; exact qq.1) : p := f ⟨h⟩
theorem XcS (h : q) (f : HQ q → p := by intro qq; refine Lq (Q_ia (o' := 1) 1 rfl rfl rfl (by decide) rfl) ?_; exact qq.1) : p := f ⟨h⟩
theorem XcT (h : q) (f : HQ q → p := by intro qq; refine Lq (Q_ia (o' := 2) 2 rfl rfl rfl (by decide) rfl) ?_; exact qq.1) : p := f ⟨h⟩
theorem XcU (h : q) (f : HQ q → p := by intro qq; refine Sq (Ent.re [0,2] rfl) rfl (Q_ldA 0 rfl rfl rfl) ?_; exact qq.1) : p := f ⟨h⟩
theorem XcV (h : q) (f : HQ q → p := by intro qq; refine Lq ((Q_lss rfl rfl).as (v' := .bool false) (congrArg Value.bool (decide_eq_false ((by omega))))) ?_; exact qq.1) : p := f ⟨h⟩
theorem XcW (h : q) (f : HQ q → p := by intro qq; refine Sq (Ent.re [1,2] rfl) rfl (Q_move rfl) ?_; exact qq.1) : p := f ⟨h⟩
theorem XcX (h : q) (f : HQ q → p := by intro qq; refine Sq (Ent.re [0,2] rfl) rfl (Q_assign rfl) ?_; exact qq.1) : p := f ⟨h⟩
theorem XcY (f : p := by exact retQ_normal [] [_] .nil ⟨rfl, rfl⟩ (Ent.refl _)) : p := f
theorem XcZ (h : q) (f : HQ q → p := by intro qq; refine Sq (Ent.re [0] rfl) rfl (Q_ia (o' := a) a rfl rfl rfl ha (by omega)) ?_; exact qq.1) : p := f ⟨h⟩
theorem Xc0 (h : q) (f : HQ q → p := by intro qq; refine Sq (Ent.re [0] rfl) rfl (Q_ia (o' := d) d rfl rfl rfl hd (by omega)) ?_; exact qq.1) : p := f ⟨h⟩
theorem Xc1 (h : q) (f : HQ q → p := by intro qq; refine Sq (Ent.re [0] rfl) rfl (Q_ia (o' := c) c rfl rfl rfl hc (by omega)) ?_; exact qq.1) : p := f ⟨h⟩
theorem Xc2 (h : q) (f : HQ q → p := by intro qq; refine Sq (Ent.re [0] rfl) rfl (Q_ia (o' := b) b rfl rfl rfl hb (by omega)) ?_; exact qq.1) : p := f ⟨h⟩
theorem Xc3 (f : p := by exact retQ_ret _ [] (.cons (RV_cell 0 rfl rfl rfl rfl) .nil) ⟨rfl, rfl⟩ (Ent.re [3] rfl)) : p := f
theorem Xc4 (h : q) (f : HQ q → p := by intro qq; refine S_s rfl rfl rfl (O_stW 1 rfl rfl rfl rfl ⟨[], free_no (by kernel_rfl), ?_⟩); refine Xa ?_; exact qq.1) : p := f ⟨h⟩
theorem Xc5 (h : q) (f : HQ q → p := by intro qq; refine Lq (Q_ixAt 5 i rfl rfl rfl rfl hia rfl) ?_; refine Lq (Q_ldEAt 5 i 0 (v := .int .i64 az[i]) rfl rfl rfl rfl hia (by decide) rfl) ?_; exact qq.1) : p := f ⟨h⟩
theorem Xc6 (h : q) (f : HQ q → p := by intro qq; refine S_n (Ent.re [0] rfl) rfl rfl rfl rfl ?_; refine S_n (Ent.re [0] rfl) rfl rfl rfl rfl ?_; exact qq.1) : p := f ⟨h⟩
theorem Xc7 (f : p := by refine J_ret ?_; exact Xff) : p := f
theorem Xc8 (f : p := by refine seqQ_ret ?_; exact Xc3) : p := f
theorem Xc9 (f : p := by refine Xbu ?_; exact loopQ_normal (i + 1) (by omega) (by omega) ⟨rfl, rfl, rfl, rfl, trivial⟩ (Ent.refl _)) : p := f
theorem Xda (f : p := by refine J_ret ?_; exact Xc3) : p := f
theorem Xdb (h : q) (f : HQ q → p := by intro qq; refine DH [1,2] [0,2] (.quiet 0 (.quiet 2 (.loud 1 (.loud 3 (.loud 4 (.loud 5 .done)))))) Tryz.mixed ?_; refine XdJ ?_; exact qq.1) : p := f ⟨h⟩
theorem Xdc (h : q) (f : HQ q → p := by intro qq; refine Sq (Ent.re [0,2,3,4] rfl) rfl (Q_fa0 rfl) ?_; refine Sq (Ent.re [0,2,3,4] rfl) rfl (Q_ldA 3 rfl rfl rfl) ?_; exact qq.1) : p := f ⟨h⟩
theorem Xdd (f : p := by refine Xap ?_; exact retQ_ret _ [] (.cons (RV_tmp rfl) .nil) ⟨rfl, rfl⟩ (Ent.re [3] rfl)) : p := f
theorem Xde (f : p := by refine Xq ?_; exact XdC) : p := f
theorem Xdf (h : q) (f : HQ q → p := by intro qq; refine Sq (Ent.re [0,2] rfl) rfl (Q_fa0 rfl) ?_; refine Sq (Ent.re [0,2] rfl) rfl (Q_ld 1 rfl rfl rfl rfl) ?_; exact qq.1) : p := f ⟨h⟩
theorem Xdg (h : q) (f : HQ q → p := by intro qq; refine XdD ?_; refine Sq (Ent.re [1,2] rfl) rfl (Q_ldA 1 rfl rfl rfl) ?_; exact qq.1) : p := f ⟨h⟩
theorem Xdh (f : p := by refine Xq ?_; exact retQ_ret [_] [] (.cons (RV_tmp rfl) .nil) ⟨rfl, rfl⟩ (Ent.refl _)) : p := f
theorem Xdi (h : q) (f : HQ q → p := by intro qq; refine Xa ?_; refine S_o rfl rfl rfl rfl (O_callP (hoq) rfl ⟨[], free_no (by kernel_rfl), ?_⟩); exact qq.1) : p := f ⟨h⟩
theorem Xdj (h : q) (f : HQ q → p := by intro qq; refine Sq (Ent.re [1,2] rfl) rfl (Q_nilCheck rfl) ?_; refine XdD ?_; exact qq.1) : p := f ⟨h⟩
theorem Xdk (h : q) (f : HQ q → p := by intro qq; refine Xa ?_; refine S_o rfl rfl rfl rfl (O_callP (h3) rfl ⟨[], free_no (by kernel_rfl), ?_⟩); exact qq.1) : p := f ⟨h⟩
theorem Xdl (h : q) (f : HQ q → p := by intro qq; refine Sr ?_; refine Xat ?_; refine Xt ?_; exact qq.1) : p := f ⟨h⟩
theorem Xdm (h : q) (f : HQ q → p := by intro qq; refine Sq (Ent.refl _) rfl (Q_assign rfl) ?_; refine Sq (Ent.refl _) rfl (Q_assign rfl) ?_; exact qq.1) : p := f ⟨h⟩
theorem Xdn (h : q) (f : HQ q → p := by intro qq; refine Xc ?_; refine L_o rfl rfl rfl (O_call [0] [1,2,3,4] (p1 S1) rfl rfl ?_); exact qq.1) : p := f ⟨h⟩
theorem Xdo (h : q) (f : HQ q → p := by intro qq; refine Sr ?_; refine XbV ?_; refine Xt ?_; refine Xac ?_; exact qq.1) : p := f ⟨h⟩
theorem Xdp (h : q) (f : HQ q → p := by intro qq; refine DH [1,0] [0,1,2,3,4,5,6] (.quiet 0 (.quiet 1 (.quiet 2 (.quiet 3 (.quiet 4 (.quiet 5 (.quiet 6 .done))))))) Tryz.mixed ?_; refine Xfh ?_; refine Sq (Ent.re [1,0] rfl) rfl (Q_ld 0 rfl rfl rfl hgx) ?_; exact qq.1) : p := f ⟨h⟩
theorem Xdq (h : q) (f : HQ q → p := by intro qq; refine XZ ?_; refine XI ?_; refine L_o rfl rfl rfl (O_call [] [0,1,2,3,4] ha rfl rfl ?_); exact qq.1) : p := f ⟨h⟩
theorem Xdr (h : q) (f : HQ q → p := by intro qq; refine L_s rfl rfl (O_st1 1 rfl rfl rfl rfl rfl ?_); refine Xc ?_; exact qq.1) : p := f ⟨h⟩
theorem Xds (h : q) (f : HQ q → p := by intro qq; refine XaO ?_; refine Lq (Q_extract (v := s.v) rfl rfl) ?_; refine Lq (Q_extract (v := .bool false) rfl rfl) ?_; exact qq.1) : p := f ⟨h⟩
theorem Xdt (h : q) (f : HQ q → p := by intro qq; refine Xby ?_; refine L_o rfl rfl rfl (O_callP (fmod_ok E) rfl ?_); exact qq.1) : p := f ⟨h⟩
theorem Xdu (h : q) (f : HQ q → p := by intro qq; refine XM ?_; refine L_o rfl rfl rfl (O_callP (ho) rfl ?_); exact qq.1) : p := f ⟨h⟩
theorem Xdv (h : q) (f : HQ q → p := by intro qq; refine X3 ?_; refine Lq (Q_ld 2 rfl rfl rfl rfl) ?_; exact qq.1) : p := f ⟨h⟩
theorem Xdw (h : q) (f : HQ q → p := by intro qq; refine L_s rfl rfl (O_stW 3 rfl rfl rfl rfl ?_); exact qq.1) : p := f ⟨h⟩
theorem Xdx (h : q) (f : HQ q → p := by intro qq; refine L_s rfl rfl (O_stW 5 rfl rfl rfl rfl ?_); exact qq.1) : p := f ⟨h⟩
theorem Xdy (h : q) (f : HQ q → p := by intro qq; refine F_q (Ent.re [0] rfl) rfl (Q_ldA 0 rfl rfl rfl) rfl rfl rfl ?_; exact qq.1) : p := f ⟨h⟩
theorem Xdz (h : q) (f : HQ q → p := by intro qq; refine Lq ((Q_lss rfl rfl).as (v' := .bool true) (congrArg Value.bool (decide_eq_true (by omega)))) ?_; exact qq.1) : p := f ⟨h⟩
theorem XdA (h : q) (f : HQ q → p := by intro qq; refine Sq (Ent.re [2] rfl) rfl (Q_fa0 rfl) ?_; exact qq.1) : p := f ⟨h⟩
theorem XdB (h : q) (f : HQ q → p := by intro qq; refine Lq (Q_ixAt 0 0 rfl rfl rfl rfl Nat.zero_lt_one rfl) ?_; exact qq.1) : p := f ⟨h⟩
theorem XdC (f : p := by exact retQ_ret _ [_, _] (.cons (RV_tmp rfl) .nil) ⟨rfl, rfl⟩ (Ent.refl _)) : p := f
theorem XdD (h : q) (f : HQ q → p := by intro qq; refine Sq (Ent.re [1,2] rfl) rfl (Q_fa0 rfl) ?_; exact qq.1) : p := f ⟨h⟩
theorem XdE (f : p := by exact retQ_ret _ [] (.cons (RV_tmp rfl) .nil) ⟨rfl, rfl⟩ (Ent.refl _)) : p := f
theorem XdF (h : q) (f : HQ q → p := by intro qq; refine Sq (Ent.re [3,2] rfl) rfl (Q_move rfl) ?_; exact qq.1) : p := f ⟨h⟩
theorem XdG (h : q) (f : HQ q → p := by intro qq; refine F_q (Ent.re [2,3,4,6,7] rfl) rfl (Q_ldA 2 rfl rfl rfl) rfl rfl rfl ?_; exact qq.1) : p := f ⟨h⟩
theorem XdH (f : p := by refine J_ret ?_; exact Xf0) : p := f
theorem XdI (h : q) (f : HQ q → p := by intro qq; refine DH [0] [0,1,2,3,4,5,6,7,8,9,10,11,12,14,15] (.quiet 0 (.quiet 1 (.quiet 2 (.quiet 3 (.quiet 4 (.quiet 5 (.quiet 6 (.quiet 7 (.quiet 8 (.quiet 9 (.quiet 10 (.quiet 11 (.quiet 12 (.quiet 14 (.loud 13 (.quiet 15 (.loud 16 .done))))))))))))))))) Tryz.mixed ?_; refine XaG ?_; exact qq.1) : p := f ⟨h⟩
theorem XdJ (h : q) (f : HQ q → p := by intro qq; refine Sq (Ent.re [1,2] rfl) rfl (Q_ldA 1 rfl rfl rfl) ?_; refine Sq (Ent.re [1,2] rfl) rfl (Q_ldA 0 rfl rfl rfl) ?_; exact qq.1) : p := f ⟨h⟩
theorem XdK (h : q) (f : HQ q → p := by intro qq; refine DH [0] [0,1,2,3,4,5,6,7,8,9,10,11,12] (.quiet 0 (.quiet 1 (.quiet 2 (.quiet 3 (.quiet 4 (.quiet 5 (.quiet 6 (.quiet 7 (.quiet 8 (.quiet 9 (.quiet 10 (.quiet 11 (.quiet 12 (.loud 13 .done)))))))))))))) Tryz.mixed ?_; refine Xak ?_; exact qq.1) : p := f ⟨h⟩
theorem XdL (h : q) (f : HQ q → p := by intro qq; refine Sq (Ent.re [0,2,3] rfl) rfl (Q_ldA 0 rfl rfl rfl) ?_; refine Sq (Ent.re [0,2,3] rfl) rfl (Q_ldA 0 rfl rfl rfl) ?_; exact qq.1) : p := f ⟨h⟩
theorem XdM (h : q) (f : HQ q → p := by intro qq; refine X4 ?_; refine Sq (Ent.re [2] rfl) rfl ((Q_mul rfl rfl (IntWalk.i64_in _ (by omega))).as (v' := .int .i64 ((4 * k : Nat) : Int)) (congrArg (Value.int .i64) (by omega))) ?_; exact qq.1) : p := f ⟨h⟩
theorem XdN (h : q) (f : HQ q → p := by intro qq; refine DH [0,2,3] [0,1,2,4,5] (.quiet 0 (.quiet 1 (.quiet 2 (.quiet 4 (.quiet 5 (.loud 3 (.loud 6 (.loud 7 (.loud 8 .done))))))))) Tryz.mixed ?_; refine XdL ?_; exact qq.1) : p := f ⟨h⟩
theorem XdO (h : q) (f : HQ q → p := by intro qq; refine Sq (Ent.re [0] rfl) rfl (Q_assign rfl) ?_; refine Xu ?_; exact qq.1) : p := f ⟨h⟩
theorem XdP (f : p := by refine J_ret ?_; exact retQ_ret [_, _] [] (.cons (RV_tmp rfl) (.cons (RV_tmp rfl) .nil)) ⟨rfl, rfl⟩ (Ent.re [2] rfl)) : p := f
theorem XdQ (f : p := by refine Xbu ?_; exact loopQ_normal (i + 1) (by omega) (by omega) ⟨rfl, rfl, rfl, rfl, rfl, trivial⟩ (Ent.refl _)) : p := f
theorem XdR (h : q) (f : HQ q → p := by intro qq; refine Lq ((Q_add rfl rfl (IntWalk.i64_in _ (by omega))).as (v' := .int .i64 ((k + 1 : Nat) : Int)) rfl) ?_; refine Xd ?_; exact qq.1) : p := f ⟨h⟩
theorem XdS (h : q) (f : HQ q → p := by intro qq; refine F_q (Ent.re [0,2] rfl) rfl (Q_fa0 rfl) rfl rfl rfl ?_; refine F_q (Ent.re [0,2] rfl) rfl (Q_ldA 1 rfl rfl rfl) rfl rfl rfl ?_; exact qq.1) : p := f ⟨h⟩
theorem XdT (h : q) (f : HQ q → p := by intro qq; refine F_q (Ent.re [2,3,4,6,7] rfl) rfl (Q_fa0 rfl) rfl rfl rfl ?_; refine F_q (Ent.re [2,3,4,6,7] rfl) rfl (Q_ldA 3 rfl rfl rfl) rfl rfl rfl ?_; refine XdG ?_; exact qq.1) : p := f ⟨h⟩
theorem XdU (f : p := by refine J_ret ?_; exact retQ_ret _ [] (.cons (RV_cell 1 rfl rfl rfl rfl) .nil) ⟨rfl, rfl⟩ (Ent.re [5] rfl)) : p := f
theorem XdV (h : q) (f : HQ q → p := by intro qq; refine Sq (Ent.re [4,3,8,11,12] rfl) rfl (Q_fa0 rfl) ?_; refine Sq (Ent.re [4,3,8,11,12] rfl) rfl (Q_ld 0 rfl rfl rfl rfl) ?_; exact qq.1) : p := f ⟨h⟩
theorem XdW (h : q) (f : HQ q → p := by intro qq; refine Xeo ?_; refine Sq (Ent.re [4,3,8,11,12] rfl) rfl (Q_nilCheck rfl) ?_; exact qq.1) : p := f ⟨h⟩
theorem XdX (h : q) (f : HQ q → p := by intro qq; refine Xw ?_; refine Lq ((Q_geq rfl rfl).as (v' := .bool true) (congrArg Value.bool (decide_eq_true (by omega)))) ?_; exact qq.1) : p := f ⟨h⟩
theorem XdY (f : p := by refine S_o rfl rfl rfl rfl (QOp.jop (Q_assign rfl) ⟨[], free_no (by kernel_rfl), ?_⟩); refine S_nil ?_; exact joinQ_normal () trivial ⟨rfl, rfl, rfl, trivial⟩ (Ent.refl _)) : p := f
theorem XdZ (h : q) (f : HQ q → p := by intro qq; refine XdD ?_; refine Sq (Ent.re [1,2] rfl) rfl (Q_ldA 0 rfl rfl rfl) ?_; exact qq.1) : p := f ⟨h⟩
theorem Xd0 (h : q) (f : HQ q → p := by intro qq; refine Xa ?_; refine S_o rfl rfl rfl rfl (O_callP (h2) rfl ⟨[], free_no (by kernel_rfl), ?_⟩); exact qq.1) : p := f ⟨h⟩
theorem Xd1 (h : q) (f : HQ q → p := by intro qq; refine XaU ?_; refine L_o rfl rfl rfl (O_call [] [0,1,2,3,4,5] hb rfl rfl ?_); exact qq.1) : p := f ⟨h⟩
theorem Xd2 (h : q) (f : HQ q → p := by intro qq; refine Sq (Ent.re [1] rfl) rfl (Q_nilCheck rfl) ?_; refine Sq (Ent.re [1] rfl) rfl (Q_fa0 rfl) ?_; exact qq.1) : p := f ⟨h⟩
theorem Xd3 (h : q) (f : HQ q → p := by intro qq; refine Xfh ?_; refine Sq (Ent.re [1,0] rfl) rfl (Q_ld 1 rfl rfl rfl hgy) ?_; exact qq.1) : p := f ⟨h⟩
theorem Xd4 (h : q) (f : HQ q → p := by intro qq; refine Xfi ?_; refine F_q (Ent.re [0,2,3] rfl) rfl (Q_ldA 0 rfl rfl rfl) rfl rfl rfl ?_; exact qq.1) : p := f ⟨h⟩
theorem Xd5 (h : q) (f : HQ q → p := by intro qq; refine Xc ?_; refine L_o rfl rfl rfl (O_call [0] [1,2,3,4,5] (p2 S2) rfl rfl ?_); exact qq.1) : p := f ⟨h⟩
theorem Xd6 (h : q) (f : HQ q → p := by intro qq; refine XC ?_; refine Lq (Q_ia (o' := 4) 4 rfl rfl rfl (by decide) rfl) ?_; exact qq.1) : p := f ⟨h⟩
theorem Xd7 (h : q) (f : HQ q → p := by intro qq; refine Xcn ?_; refine Sq (Ent.re [0,1] rfl) rfl (Q_ld 1 rfl rfl rfl rfl) ?_; exact qq.1) : p := f ⟨h⟩
theorem Xd8 (h : q) (f : HQ q → p := by intro qq; refine Sq (Ent.re [0,2,3] rfl) rfl (Q_ldA 2 rfl rfl rfl) ?_; refine Sq (Ent.re [0,2,3] rfl) rfl (Q_ldA 0 rfl rfl rfl) ?_; refine Sq (Ent.re [0,2,3] rfl) rfl (Q_ldA 1 rfl rfl rfl) ?_; exact qq.1) : p := f ⟨h⟩
theorem Xd9 (h : q) (f : HQ q → p := by intro qq; refine Xab ?_; refine L_o rfl rfl rfl (O_call [] [0,1,2] hm rfl rfl ?_); exact qq.1) : p := f ⟨h⟩
theorem Xea (h : q) (f : HQ q → p := by intro qq; refine Xk ?_; refine Lq (Q_geql eqgN hz' rfl rfl) ?_; exact qq.1) : p := f ⟨h⟩
theorem Xeb (h : q) (f : HQ q → p := by intro qq; refine XaO ?_; refine Lq (Q_extract (v := s.v) rfl rfl) ?_; refine Lq (Q_extract (v := .bool true) rfl rfl) ?_; exact qq.1) : p := f ⟨h⟩
theorem Xec (h : q) (f : HQ q → p := by intro qq; refine Lq (Q_add6 _ _ rfl rfl hb.1) ?_; refine Xd ?_; exact qq.1) : p := f ⟨h⟩
theorem Xed (h : q) (f : HQ q → p := by intro qq; refine Xby ?_; refine L_o rfl rfl rfl (O_callP (smod_ok E) rfl ?_); exact qq.1) : p := f ⟨h⟩
theorem Xee (h : q) (f : HQ q → p := by intro qq; refine XD ?_; refine Lq (Q_ld 2 rfl rfl rfl rfl) ?_; exact qq.1) : p := f ⟨h⟩
theorem Xef (h : q) (f : HQ q → p := by intro qq; refine Xco ?_; refine Sq (Ent.refl _) rfl (Q_move rfl) ?_; exact qq.1) : p := f ⟨h⟩
theorem Xeg (h : q) (f : HQ q → p := by intro qq; refine blockQ_normal ?_; refine blockQ_normal ?_; exact qq.1) : p := f ⟨h⟩
theorem Xeh (f : p := by exact ⟨ha'.defers, _, h1.run fn hr a' w' ha' hs', _, _, rfl, h2, h3 E w' hs'⟩) : p := f
theorem Xei (h : q) (f : HQ q → p := by intro qq; refine Lq ((Q_neq rfl rfl).as (v' := .bool true) (congrArg Value.bool (decide_eq_true (by omega)))) ?_; exact qq.1) : p := f ⟨h⟩
theorem Xej (h : q) (f : HQ q → p := by intro qq; refine Sq (Ent.re [0,3] rfl) rfl (Q_ldA 1 rfl rfl rfl) ?_; exact qq.1) : p := f ⟨h⟩
theorem Xek (h : q) (f : HQ q → p := by intro qq; refine F_q (Ent.re [0,2] rfl) rfl (Q_ldA 0 rfl rfl rfl) rfl rfl rfl ?_; exact qq.1) : p := f ⟨h⟩
theorem Xel (h : q) (f : HQ q → p := by intro qq; refine F_q (Ent.re [0,1,2,5,6,12] rfl) rfl (Q_ldA 5 rfl rfl rfl) rfl rfl rfl ?_; exact qq.1) : p := f ⟨h⟩
theorem Xem (h : q) (f : HQ q → p := by intro qq; refine Lq ((Q_eql rfl rfl).as (v' := .bool false) (congrArg Value.bool (decide_eq_false ((by omega))))) ?_; exact qq.1) : p := f ⟨h⟩
theorem Xen (h : q) (f : HQ q → p := by intro qq; refine Sq (Ent.re [1,2] rfl) rfl (Q_ld 0 rfl rfl rfl rfl) ?_; exact qq.1) : p := f ⟨h⟩
theorem Xeo (h : q) (f : HQ q → p := by intro qq; refine Sq (Ent.re [4,3,8,11,12] rfl) rfl (Q_move rfl) ?_; exact qq.1) : p := f ⟨h⟩
theorem Xep (h : q) (f : HQ q → p := by intro qq; refine Lq (Q_mul rfl rfl (by first | exact IntWalk.i64_in _ (by omega) | exact IntWalk.u8_in _ (by omega) | exact IntWalk.u32_in _ (by omega) | exact IntWalk.u64_in _ (by omega) | rfl)) ?_; exact qq.1) : p := f ⟨h⟩
theorem Xeq (f : p := by exact ⟨small_ok (by decide), small_lt (by decide)⟩) : p := f
theorem Xer (h : q) (f : HQ q → p := by intro qq; refine DH [0] [0,1,3,4,5,7,8,9,10,11,12,14,15,17,18,19] (.quiet 0 (.quiet 1 (.loud 2 (.quiet 3 (.quiet 4 (.quiet 5 (.loud 6 (.quiet 7 (.quiet 8 (.quiet 9 (.quiet 10 (.quiet 11 (.quiet 12 (.quiet 14 (.quiet 15 (.loud 13 (.loud 16 (.quiet 17 (.quiet 18 (.quiet 19 .done)))))))))))))))))))) Tryz.mixed ?_; refine XbQ ?_; exact qq.1) : p := f ⟨h⟩
theorem Xes (f : p := by refine Xq ?_; exact retQ_ret _ [] (.cons (RV_tmp rfl) .nil) ⟨rfl, rfl⟩ (Ent.re [3] rfl)) : p := f
theorem Xet (h : q) (f : HQ q → p := by intro qq; refine DH [0,7,9] [0,1,3,4,6] (.quiet 0 (.quiet 1 (.quiet 3 (.quiet 4 (.loud 2 (.loud 5 (.quiet 6 .done))))))) Tryz.mixed ?_; refine Sq (Ent.re [0,7,9] rfl) rfl (Q_ldA 0 rfl rfl rfl) ?_; exact qq.1) : p := f ⟨h⟩
theorem Xeu (h : q) (f : HQ q → p := by intro qq; refine F_q (Ent.re [0,1,2,4,5] rfl) rfl (Q_ldA 4 rfl rfl rfl) rfl rfl rfl ?_; refine F_q (Ent.re [0,1,2,4,5] rfl) rfl (Q_ldA 1 rfl rfl rfl) rfl rfl rfl ?_; exact qq.1) : p := f ⟨h⟩
theorem Xev (h : q) (f : HQ q → p := by intro qq; refine F_q (Ent.re [0,1,2,4,5] rfl) rfl (Q_ldA 3 rfl rfl rfl) rfl rfl rfl ?_; refine F_q (Ent.re [0,1,2,4,5] rfl) rfl (Q_ldA 0 rfl rfl rfl) rfl rfl rfl ?_; exact qq.1) : p := f ⟨h⟩
theorem Xew (h : q) (f : HQ q → p := by intro qq; refine XdG ?_; refine F_q (Ent.re [2,3,4,6,7] rfl) rfl (Q_ldA 1 rfl rfl rfl) rfl rfl rfl ?_; exact qq.1) : p := f ⟨h⟩
theorem Xex (h : q) (f : HQ q → p := by intro qq; refine F_q (Ent.re [0,1,2,3,6] rfl) rfl (Q_ldA 4 rfl rfl rfl) rfl rfl rfl ?_; refine F_q (Ent.re [0,1,2,3,6] rfl) rfl (Q_ldA 3 rfl rfl rfl) rfl rfl rfl ?_; exact qq.1) : p := f ⟨h⟩
theorem Xey (h : q) (f : HQ q → p := by intro qq; refine F_q (Ent.re [0,1,2,3,6] rfl) rfl (Q_ldA 2 rfl rfl rfl) rfl rfl rfl ?_; refine F_q (Ent.re [0,1,2,3,6] rfl) rfl (Q_ldA 4 rfl rfl rfl) rfl rfl rfl ?_; exact qq.1) : p := f ⟨h⟩
theorem Xez (h : q) (f : HQ q → p := by intro qq; refine F_q (Ent.re [0,1,2,3,6] rfl) rfl (Q_ldA 1 rfl rfl rfl) rfl rfl rfl ?_; refine F_q (Ent.re [0,1,2,3,6] rfl) rfl (Q_ldA 0 rfl rfl rfl) rfl rfl rfl ?_; exact qq.1) : p := f ⟨h⟩
theorem XeA (h : q) (f : HQ q → p := by intro qq; refine Xd ?_; refine Lq ((Q_sub rfl rfl (IntWalk.i64_in _ (by omega))).as (v' := .int .i64 (m : Int)) (congrArg (Value.int .i64) (by omega))) ?_; exact qq.1) : p := f ⟨h⟩
theorem XeB (h : q) (f : HQ q → p := by intro qq; refine Lq (Q_ixAt 5 ds.length rfl rfl rfl rfl h rfl) ?_; refine Lq (Q_ldEAt 5 ds.length 0 (v := (rows[ds.length]).v) rfl rfl rfl rfl h (by decide) rfl) ?_; exact qq.1) : p := f ⟨h⟩
theorem XeC (f : p := by refine Xa0 ?_; exact loopQ_normal 1 (by decide) (by decide) ⟨rfl, rfl, rfl, rfl, rfl, rfl, trivial⟩ (Ent.refl _)) : p := f
theorem XeD (f : p := by refine Xa0 ?_; exact loopQ_normal 2 (by decide) (by decide) ⟨rfl, rfl, rfl, rfl, rfl, rfl, trivial⟩ (Ent.refl _)) : p := f
theorem XeE (f : p := by refine Xa0 ?_; exact loopQ_normal 3 (by decide) (by decide) ⟨rfl, rfl, rfl, rfl, rfl, rfl, trivial⟩ (Ent.refl _)) : p := f
theorem XeF (f : p := by refine Xa0 ?_; exact loopQ_normal 4 (by decide) (by decide) ⟨rfl, rfl, rfl, rfl, rfl, rfl, trivial⟩ (Ent.refl _)) : p := f
theorem XeG (h : q) (f : HQ q → p := by intro qq; refine Sq (Ent.re [5] rfl) rfl (Q_move rfl) ?_; refine Sq (Ent.re [5] rfl) rfl (Q_move rfl) ?_; exact qq.1) : p := f ⟨h⟩
theorem XeH (h : q) (f : HQ q → p := by intro qq; refine Xaq ?_; refine ⟨rfl, T1, T2, SV.nil, SV.nil, [], rfl, ⟨rfl, rfl, rfl, rfl, rfl, rfl, rfl, rfl, rfl, rfl, trivial⟩, ?_⟩; exact qq.1) : p := f ⟨h⟩
theorem XeI (f : p := by refine J_ret ?_; exact retQ_ret _ [] (.cons (RV_cell 1 rfl rfl rfl rfl) .nil) ⟨rfl, rfl⟩ (Ent.re [3] rfl)) : p := f
theorem XeJ (f : p := by refine Xbu ?_; exact loopQ_normal (i + 1) (by omega) (by omega) ⟨rfl, rfl, rfl, trivial⟩ (Ent.refl _)) : p := f
theorem XeK (h : q) (f : HQ q → p := by intro qq; refine Lq ((Q_gtr rfl rfl).as (v' := .bool true) (congrArg Value.bool (decide_eq_true (by omega)))) ?_; refine Xp ?_; exact qq.1) : p := f ⟨h⟩
theorem XeL (h : q) (f : HQ q → p := by intro qq; refine F_q (Ent.re [1,2] rfl) rfl (Q_fa0 rfl) rfl rfl rfl ?_; refine F_q (Ent.re [1,2] rfl) rfl (Q_ldA 1 rfl rfl rfl) rfl rfl rfl ?_; exact qq.1) : p := f ⟨h⟩
theorem XeM (f : p := by refine XY ?_; exact retQ_ret _ [] (.cons (RV_tmp rfl) .nil) ⟨rfl, rfl⟩ (Ent.re [6] rfl)) : p := f
theorem XeN (f : p := by refine Xq ?_; exact retQ_ret [_] [] (.cons (RV_tmp rfl) .nil) ⟨rfl, rfl⟩ (Ent.re [0] rfl)) : p := f
theorem XeO (h : q) (f : HQ q → p := by intro qq; refine Sq (Ent.re [0,2,3] rfl) rfl (Q_ldA 2 rfl rfl rfl) ?_; refine Sq (Ent.re [0,2,3] rfl) rfl (Q_ldA 1 rfl rfl rfl) ?_; exact qq.1) : p := f ⟨h⟩
theorem XeP (h : q) (f : HQ q → p := by intro qq; refine Lq (Q_ia (o' := j) j rfl rfl (by omega) hj (by omega)) ?_; refine Lq (Q_ld 0 rfl rfl rfl (W4.at_l x j hj)) ?_; exact qq.1) : p := f ⟨h⟩
theorem XeQ (h : q) (f : HQ q → p := by intro qq; refine Lq ((Q_eql rfl rfl).as (v' := .bool true) (congrArg Value.bool (decide_eq_true (by omega)))) ?_; refine Xm ?_; exact qq.1) : p := f ⟨h⟩
theorem XeR (h : q) (f : HQ q → p := by intro qq; refine Sq (Ent.re [2,3] rfl) rfl (Q_nilCheck rfl) ?_; refine Sq (Ent.re [2,3] rfl) rfl (Q_fa0 rfl) ?_; refine S_s rfl rfl rfl (O_st1 7 rfl rfl rfl rfl rfl ⟨[], free_no (by kernel_rfl), ?_⟩); exact qq.1) : p := f ⟨h⟩
theorem XeS (h : q) (f : HQ q → p := by intro qq; refine XdA ?_; refine Sq (Ent.re [2] rfl) rfl (Q_ld 0 rfl rfl rfl rfl) ?_; exact qq.1) : p := f ⟨h⟩
theorem XeT (h : q) (f : HQ q → p := by intro qq; refine XbQ ?_; refine Sq (Ent.re [0] rfl) rfl (Q_ld 0 rfl rfl rfl hg8) ?_; exact qq.1) : p := f ⟨h⟩
theorem XeU (h : q) (f : HQ q → p := by intro qq; refine Lq (Q_ldA 5 rfl rfl rfl) ?_; refine L_o rfl rfl rfl (O_call [] [0,1,2,3,4,5,6] hs rfl rfl ?_); exact qq.1) : p := f ⟨h⟩
theorem XeV (h : q) (f : HQ q → p := by intro qq; refine Sq (Ent.re [1,6] rfl) rfl (Q_move rfl) ?_; refine Sq (Ent.re [1,6] rfl) rfl (Q_move rfl) ?_; exact qq.1) : p := f ⟨h⟩
theorem XeW (h : q) (f : HQ q → p := by intro qq; refine XaB ?_; refine Sq (Ent.re [0,2] rfl) rfl (Q_nilCheck rfl) ?_; exact qq.1) : p := f ⟨h⟩
theorem XeX (h : q) (f : HQ q → p := by intro qq; refine Sq (Ent.re [2] rfl) rfl (Q_ext20 rfl) ?_; refine Sq (Ent.re [2] rfl) rfl (Q_ext21 rfl) ?_; exact qq.1) : p := f ⟨h⟩
theorem XeY (h : q) (f : HQ q → p := by intro qq; refine XdT ?_; refine F_q (Ent.re [2,3,4,6,7] rfl) rfl (Q_ldA 0 rfl rfl rfl) rfl rfl rfl ?_; exact qq.1) : p := f ⟨h⟩
theorem XeZ (h : q) (f : HQ q → p := by intro qq; refine X0 ?_; refine L_o rfl rfl rfl (O_call [] [0,1,2,3] ha rfl rfl ?_); exact qq.1) : p := f ⟨h⟩
theorem Xe0 (h : q) (f : HQ q → p := by intro qq; refine F_q (Ent.re [0,2,3] rfl) rfl (Q_ldA 0 rfl rfl rfl) rfl rfl rfl ?_; refine Xfi ?_; exact qq.1) : p := f ⟨h⟩
theorem Xe1 (f : p := by refine XbW ?_; refine Xaa ?_; exact retQ_ret [_, _] [] (.cons (RV_cell 2 rfl rfl rfl rfl) (.cons (RV_tmp rfl) .nil)) ⟨rfl, rfl⟩ (Ent.re [3] rfl)) : p := f
theorem Xe2 (h : q) (f : HQ q → p := by intro qq; refine Xc ?_; refine L_o rfl rfl rfl (O_call [0] [1,2,3,4,5,6] (p3 S3) rfl rfl ?_); exact qq.1) : p := f ⟨h⟩
theorem Xe3 (f : p := by refine L_o rfl rfl rfl (O_callP (haw) rfl ?_); refine XaD ?_; exact Xes) : p := f
theorem Xe4 (h : q) (f : HQ q → p := by intro qq; refine Xc6 ?_; refine S_no rfl rfl rfl rfl (fun _ => (Ent.re [0] rfl)) ?_; exact qq.1) : p := f ⟨h⟩
theorem Xe5 (h : q) (f : HQ q → p := by intro qq; refine Sq (Ent.re [0,7,9] rfl) rfl (Q_ldA 0 rfl rfl rfl) ?_; refine Sq (Ent.re [0,7,9] rfl) rfl (Q_ldA 1 rfl rfl rfl) ?_; refine Sq (Ent.re [0,7,9] rfl) rfl (Q_ldA 2 rfl rfl rfl) ?_; exact qq.1) : p := f ⟨h⟩
theorem Xe6 (f : p := by exact retQ_ret _ [] (.cons (RV_cell 2 rfl rfl rfl rfl) .nil) ⟨rfl, rfl⟩ (Ent.re [6] rfl)) : p := f
theorem Xe7 (f : p := by exact retQ_ret _ [] (.cons (RV_cell 3 rfl rfl rfl rfl) .nil) ⟨rfl, rfl⟩ (Ent.re [7] rfl)) : p := f
theorem Xe8 (h : q) (f : HQ q → p := by intro qq; refine S_s rfl rfl rfl (O_stW 3 rfl rfl rfl rfl ⟨[], free_no (by kernel_rfl), ?_⟩); exact qq.1) : p := f ⟨h⟩
theorem Xe9 (f : p := by exact retQ_ret _ [] (.cons (RV_tmp rfl) .nil) ⟨rfl, rfl⟩ (Ent.re [1] rfl)) : p := f
theorem Xfa (h : q) (f : HQ q → p := by intro qq; refine F_q (Ent.re [0,1,4,11,15] rfl) rfl (Q_ldA 3 rfl rfl rfl) rfl rfl rfl ?_; exact qq.1) : p := f ⟨h⟩
theorem Xfb (f : p := by exact retQ_ret _ [] (.cons (RV_cell 8 rfl rfl rfl rfl) (.cons (RV_tmp rfl) .nil)) ⟨rfl, rfl⟩ (Ent.re [10] rfl)) : p := f
theorem Xfc (h : q) (f : HQ q → p := by intro qq; refine Lq ((Q_eql rfl rfl).as (v' := .bool true) (congrArg Value.bool (decide_eq_true ((by omega))))) ?_; exact qq.1) : p := f ⟨h⟩
theorem Xfd (h : q) (f : HQ q → p := by intro qq; refine Lq ((Q_add rfl rfl (IntWalk.i64_in _ (by omega))).as (v' := .int .i64 ((j + 1 : Nat) : Int)) rfl) ?_; exact qq.1) : p := f ⟨h⟩
theorem Xfe (h : q) (f : HQ q → p := by intro qq; refine Lq ((Q_lenAt 1 rfl rfl).as (v' := .int .i64 (ds.length : Int)) (by rw [List.length_map, hKc])) ?_; exact qq.1) : p := f ⟨h⟩
theorem Xff (f : p := by exact retQ_ret [_, _] [] (.cons (RV_tmp rfl) (.cons (RV_tmp rfl) .nil)) ⟨rfl, rfl⟩ (Ent.re [1] rfl)) : p := f
theorem Xfg (f : p := by exact loopQ_normal (k + 1) (by omega) (by omega) ⟨rfl, rfl, rfl, rfl, trivial⟩ (Ent.refl _)) : p := f
theorem Xfh (h : q) (f : HQ q → p := by intro qq; refine Sq (Ent.re [1,0] rfl) rfl (Q_move rfl) ?_; refine Sq (Ent.re [1,0] rfl) rfl (Q_ia (o' := j) j rfl rfl rfl (by omega) (by omega)) ?_; exact qq.1) : p := f ⟨h⟩
theorem Xfi (h : q) (f : HQ q → p := by intro qq; refine F_q (Ent.re [0,2,3] rfl) rfl (Q_fa0 rfl) rfl rfl rfl ?_; refine F_q (Ent.re [0,2,3] rfl) rfl (Q_ldA 2 rfl rfl rfl) rfl rfl rfl ?_; exact qq.1) : p := f ⟨h⟩
theorem Xfj (h : q) (f : HQ q → p := by intro qq; refine JD_drawH [2] [0,1,2,4,5,6,7,8,10,11,12,13,14] (.quiet 0 (.quiet 1 (.quiet 2 (.quiet 4 (.quiet 5 (.quiet 6 (.quiet 7 (.quiet 8 (.loud 3 (.loud 9 (.quiet 10 (.quiet 11 (.quiet 12 (.quiet 13 (.quiet 14 .done))))))))))))))) Tryz.mixed (by kernel_rfl) (by kernel_rfl) ?_; refine XdA ?_; exact qq.1) : p := f ⟨h⟩
theorem Xfk (h : q) (f : HQ q → p := by intro qq; refine Sq (Ent.re [1,3] rfl) rfl ((Q_quo rfl rfl (by decide) (IntWalk.i64_quo _ _ (by omega))).as (v' := .int .i64 ((i / 4 : Nat) : Int)) (congrArg (Value.int .i64) (by omega))) ?_; refine Sq (Ent.re [1,3] rfl) rfl (Q_ia (o' := i / 4) (i / 4) rfl rfl rfl (by omega) (by omega)) ?_; exact qq.1) : p := f ⟨h⟩
theorem Xfl (h : q) (f : HQ q → p := by intro qq; refine DL [0,1,2,3,4,5,6,7,8,9,11,12,13,14,15] (.quiet 0 (.quiet 1 (.quiet 2 (.quiet 3 (.quiet 4 (.quiet 5 (.quiet 6 (.quiet 7 (.quiet 8 (.quiet 9 (.loud 10 (.quiet 11 (.quiet 12 (.quiet 13 (.quiet 14 (.quiet 15 .done)))))))))))))))) Tryz.mixed ?_; refine Xbt ?_; exact qq.1) : p := f ⟨h⟩
theorem Xfm (h : q) (f : HQ q → p := by intro qq; refine DH [0] [0,1,2,3,4,6,7,8,10] (.quiet 0 (.quiet 1 (.quiet 2 (.quiet 3 (.quiet 4 (.quiet 6 (.quiet 7 (.quiet 8 (.loud 5 (.loud 9 (.quiet 10 .done))))))))))) Tryz.mixed ?_; refine XaV ?_; exact qq.1) : p := f ⟨h⟩
theorem Xfn (f : p := by refine JL_nil ?_; exact loopQ_normal (j + 1) (by omega) (by omega) ⟨rfl, rfl, rfl, rfl, rfl, rfl, rfl, rfl, rfl, rfl, rfl, rfl, trivial⟩ (Ent.refl _)) : p := f
theorem Xfo (h : q) (f : HQ q → p := by intro qq; refine DH [0,2] [0,2,4,5,6,7,8] (.quiet 0 (.quiet 2 (.loud 1 (.loud 3 (.quiet 4 (.quiet 5 (.quiet 6 (.quiet 7 (.quiet 8 .done))))))))) Tryz.mixed ?_; refine Sq (Ent.re [0,2] rfl) rfl (Q_ldA 1 rfl rfl rfl) ?_; exact qq.1) : p := f ⟨h⟩
theorem Xfp (f : p := by refine JL_nil ?_; exact loopQ_normal (j + 1) (by omega) (by omega) ⟨rfl, rfl, rfl, rfl, rfl, rfl, rfl, rfl, trivial⟩ (Ent.re [1,2,3] rfl)) : p := f
theorem Xfq (h : q) (f : HQ q → p := by intro qq; refine Sq (Ent.re [] rfl) rfl ((Q_mul rfl rfl (IntWalk.i64_in _ (by omega))).as (v' := .int .i64 ((8 * i : Nat) : Int)) rfl) ?_; refine Sq (Ent.re [] rfl) rfl (Q_shrD (8 * i) rfl rfl (by omega)) ?_; exact qq.1) : p := f ⟨h⟩
theorem Xfr (h : q) (f : HQ q → p := by intro qq; refine XbL ?_; refine XbM ?_; refine Lq ((Q_andN (k := .u64) (W4.of (rootN a.n)).a 1 rfl rfl rfl rfl rok.a (by decide)).as (v' := u64 ((W4.of (rootN a.n)).a % 2)) (congrArg u64 (Nat.and_one_is_mod _))) ?_; exact qq.1) : p := f ⟨h⟩
theorem Xfs (h : q) (f : HQ q → p := by intro qq; refine XbL ?_; refine XE ?_; refine Lq ((Q_andN (k := .u64) (W4.of v).a 1 rfl rfl rfl rfl (W4.of_ok v).a (by decide)).as (v' := u64 ((W4.of v).a % 2)) (congrArg u64 (Nat.and_one_is_mod _))) ?_; exact qq.1) : p := f ⟨h⟩
theorem Xft (h : q) (f : HQ q → p := by intro qq; refine Sq (Ent.re [5] rfl) rfl (Q_ixAt 0 j rfl rfl rfl rfl hja rfl) ?_; refine Sq (Ent.re [5] rfl) rfl (Q_ldEAt 0 j 0 (v := .int .i64 az[j]) rfl rfl rfl rfl hja (by decide) rfl) ?_; exact qq.1) : p := f ⟨h⟩
theorem Xfu (h : q) (f : HQ q → p := by intro qq; refine Sq (Ent.re [5] rfl) rfl (Q_ixAt 0 i rfl rfl rfl rfl hia rfl) ?_; refine Sq (Ent.re [5] rfl) rfl (Q_ldEAt 0 i 0 (v := .int .i64 az[i]) rfl rfl rfl rfl hia (by decide) rfl) ?_; exact qq.1) : p := f ⟨h⟩
theorem Xfv (h : q) (f : HQ q → p := by intro qq; refine XbL ?_; refine XbM ?_; refine Lq ((Q_andN (k := .u64) (W4.of u).a 1 rfl rfl rfl rfl (W4.of_ok u).a (by decide)).as (v' := u64 ((W4.of u).a % 2)) (congrArg u64 (Nat.and_one_is_mod _))) ?_; exact qq.1) : p := f ⟨h⟩
theorem Xfw (f : p := by refine Xaa ?_; exact retQ_ret _ [] (.cons (RV_cell 1 rfl rfl rfl rfl) (.cons (RV_tmp rfl) .nil)) ⟨rfl, rfl⟩ (Ent.re [4] rfl)) : p := f
theorem Xfx (h : q) (f : HQ q → p := by intro qq; refine Lq ((Q_sub rfl rfl (IntWalk.i64_in _ (by omega))).as (v' := .int .i64 (i : Int)) (congrArg (Value.int .i64) (by omega))) ?_; refine Lq (Q_ixAt 8 i rfl rfl rfl rfl him rfl) ?_; exact qq.1) : p := f ⟨h⟩
theorem Xfy (h : q) (f : HQ q → p := by intro qq; refine Xe ?_; refine Lq ((Q_rem rfl rfl (by decide) (IntWalk.rem_in _ _ (by omega))).as (v' := .int .i64 (((k + 2) % 2 : Nat) : Int)) (congrArg (Value.int .i64) (by omega))) ?_; exact qq.1) : p := f ⟨h⟩
theorem Xfz (f : p := by refine Xbz ?_; exact retQ_ret _ [_, _] (.cons (RV_tmp rfl) (.cons (RV_tmp rfl) .nil)) ⟨rfl, rfl⟩ (Ent.re [1,0,2] rfl)) : p := f
theorem XfA (h : q) (f : HQ q → p := by intro qq; refine DH [5] [0,1,2,3,4,5,6,7,8] (.quiet 0 (.quiet 1 (.quiet 2 (.quiet 3 (.quiet 4 (.quiet 5 (.quiet 6 (.quiet 7 (.quiet 8 .done))))))))) Tryz.mixed ?_; refine XeG ?_; exact qq.1) : p := f ⟨h⟩
theorem XfB (h : q) (f : HQ q → p := by intro qq; refine XdB ?_; refine Lq (Q_ldEAAt 0 0 0 (vs := (pw (kP 12 gP)).l) rfl rfl rfl rfl Nat.zero_lt_one (Nat.le_refl 9) rfl) ?_; exact qq.1) : p := f ⟨h⟩
theorem XfC (h : q) (f : HQ q → p := by intro qq; refine Lq ((Q_gtr rfl rfl).as (v' := .bool false) (congrArg Value.bool (decide_eq_false (by omega)))) ?_; refine Lq ((Q_pickB rfl rfl rfl).as (v' := .bool false) rfl) ?_; exact qq.1) : p := f ⟨h⟩
theorem XfD (f : p := by refine Lq ((Q_add rfl rfl (IntWalk.i64_in _ (by omega))).as (v' := .int .i64 ((k + 1 + 2 : Nat) : Int)) (congrArg (Value.int .i64) (by omega))) ?_; refine Xj ?_; exact Xfg) : p := f
theorem XfE (f : p := by refine Xbz ?_; exact retQ_ret _ [_] (.cons (RV_tmp rfl) (.cons (RV_tmp rfl) .nil)) ⟨rfl, rfl⟩ (Ent.refl _)) : p := f
theorem XfF (f : p := by refine Xa0 ?_; exact loopQ_normal 4 (by decide) (by decide) ⟨rfl, rfl, rfl, rfl, trivial⟩ (Ent.refl _)) : p := f
theorem XfG (h : q) (f : HQ q → p := by intro qq; refine DH [0,2] [0,1,2] (.quiet 0 (.quiet 1 (.quiet 2 (.loud 3 (.loud 4 (.loud 5 .done)))))) Tryz.mixed ?_; refine XcU ?_; exact qq.1) : p := f ⟨h⟩
theorem XfH (f : p := by refine XY ?_; exact retQ_ret _ [] (.cons (RV_cell 0 rfl rfl rfl rfl) .nil) ⟨rfl, rfl⟩ (Ent.re [4] rfl)) : p := f
theorem XfI (h : q) (f : HQ q → p := by intro qq; refine Lq ((Q_mul rfl rfl (IntWalk.i64_in _ (by omega))).as (v' := .int .i64 ((4 * i : Nat) : Int)) rfl) ?_; refine Lq (Q_ssL (4 * i) rfl rfl rfl (by omega)) ?_; exact qq.1) : p := f ⟨h⟩
theorem XfJ (h : q) (f : HQ q → p := by intro qq; refine XdB ?_; refine Lq (Q_ldEAAt 0 0 0 (vs := flL f) rfl rfl rfl rfl Nat.zero_lt_one (Nat.le_refl 3) rfl) ?_; exact qq.1) : p := f ⟨h⟩
theorem XfK (h : q) (f : HQ q → p := by intro qq; refine Lq ((Q_max2 rfl rfl).as (v' := .int .i64 (a : Int)) (congrArg (Value.int .i64) (by omega))) ?_; refine Lq (Q_cvt rfl (IntWalk.u64_in _ (by omega))) ?_; exact qq.1) : p := f ⟨h⟩
theorem XfL (h : q) (f : HQ q → p := by intro qq; refine Xd ?_; refine L_o rfl rfl rfl (O_dyn (vs := [.agg (flL f).toArray, str f.name]) (fs := #[]) (cs := #[]) [] [0,1] rfl rfl rfl h1 rfl ?_); exact qq.1) : p := f ⟨h⟩
theorem XfM (h : q) (f : HQ q → p := by intro qq; refine XbL ?_; refine XE ?_; refine Lq ((Q_andN (k := .u64) x.a 1 rfl rfl rfl rfl hx.a (by decide)).as (v' := u64 (x.a % 2)) (congrArg u64 (Nat.and_one_is_mod x.a))) ?_; exact qq.1) : p := f ⟨h⟩
theorem XfN (h : q) (f : HQ q → p := by intro qq; refine F_q (Ent.re [1,3,5] rfl) rfl (Q_ldA 2 rfl rfl rfl) rfl rfl rfl ?_; refine F_q (Ent.re [1,3,5] rfl) rfl (Q_ldA 0 rfl rfl rfl) rfl rfl rfl ?_; exact qq.1) : p := f ⟨h⟩
theorem XfO (f : p := by refine XbK ?_; exact retQ_ret [_] [] (.cons (RV_tmp rfl) .nil) ⟨rfl, rfl⟩ (Ent.refl _)) : p := f
theorem XfP (h : q) (f : HQ q → p := by intro qq; refine Xd3 ?_; refine Sq (Ent.re [1,0] rfl) rfl ((Q_lss rfl rfl).as (v' := .bool false) (congrArg Value.bool (decide_eq_false ((by omega))))) ?_; exact qq.1) : p := f ⟨h⟩
theorem XfQ (h : q) (f : HQ q → p := by intro qq; refine Lq ((Q_add rfl rfl (IntWalk.i64_in _ (by omega))).as (v' := .int .i64 ((64 * k + j : Nat) : Int)) rfl) ?_; refine Xd ?_; exact qq.1) : p := f ⟨h⟩
theorem XfR (h : q) (f : HQ q → p := by intro qq; refine Lq (Q_ixAt 2 i rfl rfl rfl rfl h rfl) ?_; refine Lq (Q_ldEAAt 2 i 0 (vs := shL l[i].1 l[i].2) rfl rfl rfl rfl h (Nat.le_refl 5) rfl) ?_; exact qq.1) : p := f ⟨h⟩
theorem XfS (h : q) (f : HQ q → p := by intro qq; refine Lq (Q_ixAt 0 i rfl rfl rfl rfl h rfl) ?_; refine Lq (Q_ldEAAt 0 i 0 (vs := (c[i]).l) rfl rfl rfl rfl h (Nat.le_refl 4) rfl) ?_; exact qq.1) : p := f ⟨h⟩
theorem XfT (h : q) (f : HQ q → p := by intro qq; refine F_q (Ent.re [0,3] rfl) rfl (Q_ldA 1 rfl rfl rfl) rfl rfl rfl ?_; refine F_q (Ent.re [0,3] rfl) rfl (Q_ldA 0 rfl rfl rfl) rfl rfl rfl ?_; exact qq.1) : p := f ⟨h⟩
theorem XfU (h : q) (f : HQ q → p := by intro qq; refine Lq (Q_ixAt 1 j rfl rfl rfl rfl hjl rfl) ?_; refine Lq (Q_ldEAAt 1 j 0 (vs := (c[j]).l) rfl rfl rfl rfl hjl (Nat.le_refl 4) rfl) ?_; exact qq.1) : p := f ⟨h⟩
theorem XfV (h : q) (f : HQ q → p := by intro qq; refine Lq (Q_ixAt 0 0 rfl rfl rfl rfl h0 rfl) ?_; refine Lq (Q_ldEAAt 0 0 0 (vs := (c[0]).l) rfl rfl rfl rfl h0 (Nat.le_refl 4) rfl) ?_; exact qq.1) : p := f ⟨h⟩
theorem XfW (h : q) (f : HQ q → p := by intro qq; refine Lq ((Q_leq rfl rfl).as (v' := .bool true) (congrArg Value.bool (decide_eq_true ((by omega))))) ?_; refine XaD ?_; exact qq.1) : p := f ⟨h⟩
theorem XfX (h : q) (f : HQ q → p := by intro qq; refine Lq ((Q_gtr rfl rfl).as (v' := .bool true) (congrArg Value.bool (decide_eq_true ((by omega))))) ?_; refine Xp ?_; exact qq.1) : p := f ⟨h⟩
theorem XfY (h : q) (f : HQ q → p := by intro qq; refine F_q (Ent.re [1,3,5] rfl) rfl (Q_ldA 1 rfl rfl rfl) rfl rfl rfl ?_; refine F_q (Ent.re [1,3,5] rfl) rfl (Q_fa0 rfl) rfl rfl rfl ?_; exact qq.1) : p := f ⟨h⟩
theorem XfZ (f : p := by exact .inl ⟨by simp [Region.wanted, hg, yielded_val ha h1 h2, hcb], fun w' hw' => h3 a w' ha hw'⟩) : p := f
theorem Xf0 (f : p := by exact retQ_ret _ [] (.cons (RV_cell 1 rfl rfl rfl rfl) .nil) ⟨rfl, rfl⟩ (Ent.re [4] rfl)) : p := f
theorem Xf1 (f : p := by exact loopQ_normal (i + 1) (by omega) (by omega) ⟨rfl, rfl, rfl, rfl, rfl, rfl, trivial⟩ (Ent.refl _)) : p := f
theorem Xf2 (f : p := by exact retQ_ret _ [] (.cons (RV_cell 5 rfl rfl rfl rfl) .nil) ⟨rfl, rfl⟩ (Ent.re [8] rfl)) : p := f
theorem Xf3 (f : p := by exact retQ_ret _ [] (.cons (RV_cell 0 rfl rfl rfl rfl) .nil) ⟨rfl, rfl⟩ (Ent.re [2] rfl)) : p := f
theorem Xf4 (f : p := by exact retQ_ret _ [] (.cons (RV_cell 9 rfl rfl rfl rfl) .nil) ⟨rfl, rfl⟩ (Ent.re [13] rfl)) : p := f
theorem Xf5 (f : p := by exact ⟨ha'.defers, u2, rfl, _, q1.run fn hr a' w' ha' hs', rfl, _, _, rfl, q2, q3 E w' hs'⟩) : p := f
theorem Xf6 (f : p := by exact (Ent.mk fun _ _ h => (h.lay_nil tFl true : Sat _ _ (slc tFl true SV.nil [] :: _))).trans (Ent.re [1,0,2] rfl)) : p := f
theorem Xf7 (f : p := by exact retQ_ret _ [diskAt p d] (.cons (RV_tmp rfl) .nil) ⟨rfl, rfl⟩ ((Ent.re [1,2,3] rfl).trans (diskAt_mk rfl))) : p := f
theorem Xf8 (h : q) (f : HQ q → p := by intro qq; refine Lq (Q_cvt rfl (by first | exact IntWalk.i64_in _ (by omega) | exact IntWalk.u8_in _ (by omega) | exact IntWalk.u32_in _ (by omega) | exact IntWalk.u64_in _ (by omega) | rfl)) ?_; exact qq.1) : p := f ⟨h⟩
theorem Xf9 (f : p := by exact (Ent.mk fun _ _ h => (h.lay_nil tPs true : Sat _ _ (slc tPs true SV.nil [] :: _))).trans ((Ent.mk fun _ _ h => (h.lay_nil tSh true : Sat _ _ (slc tSh true SV.nil [] :: _))).trans (Ent.stars_nil.trans (Ent.re [10,4,2,0,3,1,6,7,8,9,5,12,13] rfl)))) : p := f
end Go
