/- An append of a part of a row. No condition. -/
import Derived.Test.YtadjbffiomkljaaGreatAnJ
set_option linter.unusedVariables false
set_option linter.unusedSimpArgs false
namespace Go.Proofs.YtadjbffiomkljaaGreatM
open Go Go.RowKit
section
variable {P : Program} {w : World} {ρ : Nat → Value} {F : Nat → Nat → Prop} {N : Nat} {w0 : World} {S : Fx} {s : St} {a : Act} {o : Oper} {ops : Array Oper} {draw : Bool} {pre : List (Oper × Eff)} {rest : List Oper} {t : Nat → AV} {m : Nat → Option Cont} {K : St → Prop} {G : List (Operand × AV)} {d : Nat}
/-- A state that goes on as one of those told, lengths told anew on the way. -/
inductive CanR (I : St → Prop) : St → Prop
  | mk {s : St} {ts : List (Nat × AV)} {ms : List (Nat × Cont)} (σ : Nat → Nat) (h : I (St.of ts ms)) (ht : canT s σ ts) (hm : canM s σ ms) (hk : okCan σ ts ms = true) : CanR I s
  | rl {s : St} (κ n : Nat) {e : TypeId} {css : List (List DV)} (k : CanR I (rlen s κ n)) (hm : s.m κ = some (.row e css) := by rfl) (hn : css.length = n := by exact List.length_map _) : CanR I s
theorem CanR.rel {I : St → Prop} {s : St} (h : CanR I s) {w : World} {a : Act} (hr : Rel P N w0 S s a w) : ∃ s', I s' ∧ Rel P N w0 S s' a w := by
  induction h with
  | mk σ h ht hm hk => exact ⟨_, h, hr.canon σ ht hm hk⟩
  | rl κ n k hm hn ih => exact ih (hr.relen hm hn)
/-- Several ways meet: what follows is told once. -/
theorem AG.joinR {c : Code} {Q : Exit → St → Prop} (I : St → Prop) (k : AG P N w0 S c (thenQ (CanR I) Q) s) (h : ∀ s, I s → Q .normal s) : AG P N w0 S c Q s :=
  ⟨fun a w hr => wp_mono (k.run a w hr) (fun e a w he => by
    obtain ⟨s', h1, h2⟩ := he
    cases e with
    | normal =>
      obtain ⟨s2, c4, c1⟩ := h1.rel h2
      exact ⟨_, h _ c4, c1⟩
    | _ => exact ⟨s', h1, h2⟩)⟩
end
end Go.Proofs.YtadjbffiomkljaaGreatM
