/- A scope that is gone through without a jump. -/
import Derived.Scope
import Derived.Test.YtihlnjafeocbnaaSl8
set_option autoImplicit false
namespace Go.SL
def scopeQ (Q : Post) : Post
  | .goto _, _, _ => False
  | e, ρ, L => Q e ρ L
section
variable {P : Program} {E : World} {n : Nat} {Q : Post} {ρ : Env} {L : List HProp} {c : Code}
theorem J_scope (h : J P E n c (scopeQ Q) ρ L) : J P E n (.scope c) Q ρ L := fun a w ha hs =>
  wp_scope_straight (wp_mono (h a w ha hs) fun e a' w' ⟨ρ', L', hQ, ha', hs'⟩ => by
    cases e with
    | goto l => exact hQ.elim
    | _ => exact ⟨ρ', L', hQ, ha', hs'⟩)
theorem scopeQ_normal (h : Q .normal ρ L) : scopeQ Q .normal ρ L := h
theorem scopeQ_exit {id : Nat} (h : Q (.exit id) ρ L) : scopeQ Q (.exit id) ρ L := h
theorem scopeQ_ret (h : Q .ret ρ L) : scopeQ Q .ret ρ L := h
theorem scopeQ_noP (h : ∀ c ρ L, ¬ Q (.panic c) ρ L) : ∀ d ρ L, ¬ scopeQ Q (.panic d) ρ L := fun d ρ L h' => h d ρ L h'
end
end Go.SL
