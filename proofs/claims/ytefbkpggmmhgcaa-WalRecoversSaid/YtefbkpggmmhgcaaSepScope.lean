/-
  A scope with two labels: the run jumps back to one of them, and on to the other one.
-/
import Derived.ScopeJumps
import Derived.WalkMore
import Derived.WalkKit
namespace Go
/-- By a goto to l: J; by one to l0: J0; else Q. -/
def Exit.jump2 (l : Nat) (J : Act → World → Prop) (l0 : Nat) (J0 : Act → World → Prop) (Q : Exit → Act → World → Prop) : Exit → Act → World → Prop
  | .goto l', a, w => (l' = l ∧ J a w) ∨ (l' = l0 ∧ J0 a w)
  | e, a, w => Q e a w
section
variable {P : Program} {a : Act} {w : World} {Q : Exit → Act → World → Prop}
theorem Exit.jump2_normal {l l0 : Nat} {J J0 : Act → World → Prop} : Exit.jump2 l J l0 J0 Q .normal a w = Q .normal a w := rfl
theorem Exit.jump2_exit {l l0 : Nat} {J J0 : Act → World → Prop} (id : Nat) : Exit.jump2 l J l0 J0 Q (.exit id) a w = Q (.exit id) a w := rfl
theorem Exit.jump2_ret {l l0 : Nat} {J J0 : Act → World → Prop} : Exit.jump2 l J l0 J0 Q .ret a w = Q .ret a w := rfl
theorem wp_scope_two {c rest r0 : Code} (l l0 : Nat) (J : Act → World → Prop) (μ : Act → World → Nat) (hf : findLabel c l = some rest) (hf0 : findLabel c l0 = some r0)
    (first : c.wp P (Exit.jump2 l J l0 (fun a w => r0.wp P (Exit.noGoto Q) a w) Q) a w)
    (pass : ∀ a w, J a w → rest.wp P (Exit.jump2 l (fun a' w' => J a' w' ∧ μ a' w' < μ a w) l0 (fun a w => r0.wp P (Exit.noGoto Q) a w) Q) a w) : (Code.scope c).wp P Q a w := by
  intro b k cs
  have hg : gotoIn l (.inScope c :: k) = some (.code rest :: .inScope c :: k) := by simp [gotoIn, hf]
  have hg0 : gotoIn l0 (.inScope c :: k) = some (.code r0 :: .inScope c :: k) := by simp [gotoIn, hf0]
  have fin : ∀ a w, r0.wp P (Exit.noGoto Q) a w → ∃ e a' w', Q e a' w' ∧ Arrives P (lone (b.at a (.code r0 :: .inScope c :: k)) cs w) b k cs e a' w' := by
    intro a w h
    obtain ⟨e, a₁, w₁, hq, harr⟩ := h b (.inScope c :: k) cs
    cases e with
    | normal => exact ⟨.normal, a₁, w₁, hq, Steps.trans harr (.one step_inScope)⟩
    | exit id => exact ⟨.exit id, a₁, w₁, hq, fun k' hk => harr k' (by simp [exitTo, hk])⟩
    | goto l' => exact hq.elim
    | ret => exact ⟨_, a₁, w₁, hq, harr⟩
    | panic ch => exact ⟨_, a₁, w₁, hq, harr⟩
    | outgrown => exact ⟨_, a₁, w₁, hq, harr⟩
  have key : ∀ n a w, μ a w = n → J a w → ∃ e a' w', Q e a' w' ∧ Arrives P (lone (b.at a (.code rest :: .inScope c :: k)) cs w) b k cs e a' w' := by
    intro n
    induction n using Nat.strongRecOn with
    | _ n ih =>
      intro a w hn hJ
      obtain ⟨e, a₁, w₁, hq, harr⟩ := pass a w hJ b (.inScope c :: k) cs
      cases e with
      | normal => exact ⟨.normal, a₁, w₁, hq, Steps.trans harr (.one step_inScope)⟩
      | exit id => exact ⟨.exit id, a₁, w₁, hq, fun k' hk => harr k' (by simp [exitTo, hk])⟩
      | goto l' =>
        rcases hq with ⟨rfl, hJ', hlt⟩ | ⟨rfl, h0⟩
        · obtain ⟨e₂, a₂, w₂, hq₂, harr₂⟩ := ih _ (by omega) a₁ w₁ rfl hJ'
          exact ⟨e₂, a₂, w₂, hq₂, .of_steps (harr _ hg) harr₂⟩
        · obtain ⟨e₂, a₂, w₂, hq₂, harr₂⟩ := fin a₁ w₁ h0
          exact ⟨e₂, a₂, w₂, hq₂, .of_steps (harr _ hg0) harr₂⟩
      | ret => exact ⟨_, a₁, w₁, hq, harr⟩
      | panic ch => exact ⟨_, a₁, w₁, hq, harr⟩
      | outgrown => exact ⟨_, a₁, w₁, hq, harr⟩
  obtain ⟨e, a₁, w₁, hq, harr⟩ := first b (.inScope c :: k) cs
  cases e with
  | normal => exact ⟨.normal, a₁, w₁, hq, .head step_scope (Steps.trans harr (.one step_inScope))⟩
  | exit id => exact ⟨.exit id, a₁, w₁, hq, fun k' hk => .head step_scope (harr k' (by simp [exitTo, hk]))⟩
  | goto l' =>
    rcases hq with ⟨rfl, hJ'⟩ | ⟨rfl, h0⟩
    · obtain ⟨e₂, a₂, w₂, hq₂, harr₂⟩ := key _ a₁ w₁ rfl hJ'
      exact ⟨e₂, a₂, w₂, hq₂, .of_steps (.head step_scope (harr _ hg)) harr₂⟩
    · obtain ⟨e₂, a₂, w₂, hq₂, harr₂⟩ := fin a₁ w₁ h0
      exact ⟨e₂, a₂, w₂, hq₂, .of_steps (.head step_scope (harr _ hg0)) harr₂⟩
  | ret => exact ⟨_, a₁, w₁, hq, .of_steps (.one step_scope) harr⟩
  | panic ch => exact ⟨_, a₁, w₁, hq, .of_steps (.one step_scope) harr⟩
  | outgrown => exact ⟨_, a₁, w₁, hq, .of_steps (.one step_scope) harr⟩
/-- The same; the label that is jumped back to is passed over. -/
theorem wp_scope_two_over {c r r0 : Code} (l l0 : Nat) (J : Act → World → Prop) (μ : Act → World → Nat) (hf : findLabel c l = some (Code.skip.seq r)) (hf0 : findLabel c l0 = some r0)
    (pass : ∀ a w, J a w → r.wp P (Exit.jump2 l (fun a' w' => J a' w' ∧ μ a' w' < μ a w) l0 (fun a w => r0.wp P (Exit.noGoto Q) a w) Q) a w)
    (first : (∀ a w, J a w → r.wp P (Exit.jump2 l J l0 (fun a w => r0.wp P (Exit.noGoto Q) a w) Q) a w) → c.wp P (Exit.jump2 l J l0 (fun a w => r0.wp P (Exit.noGoto Q) a w) Q) a w) : (Code.scope c).wp P Q a w :=
  wp_scope_two l l0 J μ hf hf0 (first fun a w h => Code.wp_mono (fun e a' w' h2 => by
    cases e with
    | goto l' => exact h2.imp (fun h => ⟨h.1, h.2.1⟩) id
    | _ => exact h2) (pass a w h)) fun a w h => wp_seq (wp_skip (pass a w h))
end
end Go
