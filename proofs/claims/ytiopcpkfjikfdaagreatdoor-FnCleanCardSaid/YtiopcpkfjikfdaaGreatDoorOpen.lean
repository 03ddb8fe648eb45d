import Derived.Test.YtiopcpkfjikfdaaGreatDoorWMore
import Derived.ProofKit
import Derived.Deep.Slices
set_option linter.unusedVariables false
namespace Go.Proofs.YtiopcpkfjikfdaaGreatDoor.Opn
open Go.RowKit Go.Proofs.YtiopcpkfjikfdaaGreatDoorW.PrintWords
/-- the cells from an address on -/
def CellsAt (W : World) (a : Addr) (n : Nat) (c : List Value) : Prop := ∃ base, W.cells? base a n = some c
section
variable {H : Type} (enc : TypeId × Value → H) (P : Program) (W : World) (base : Nat) (spare : Nat → Bool) (held : Bool)
/-- Whatever reads as a datum of type t is of the kind kd, with bounds. -/
def Opens {α : Type} (t : TypeId) (kd : Kd α) (Ok : α → Prop) : Prop :=
  ∀ fuel cs x, DataW.trod enc P W base spare held fuel t cs = some x → ∃ a, kd.K W a cs ∧ Ok a
theorem opens_int {t : TypeId} {k : IntKind} (ht : P.underlying t = some (.int k)) : Opens enc P W base spare held t (Kd.int k) (fun n => (Lit.int k n).wf = true) := by
  intro fuel cs x h
  obtain ⟨n, rfl, _, hw⟩ := DataW.trod_int ht h
  exact ⟨n, rfl, hw⟩
theorem mapM_all {α β : Type} {f : α → Option β} : ∀ {l : List α} {r : List β}, l.mapM f = some r → r.length = l.length ∧ ∀ (i : Nat) (a : α), l[i]? = some a → f a = r[i]?
  | [], r, h => by simp at h; subst h; simp
  | a :: l, r, h => by
    rw [List.mapM_cons] at h
    simp only [Option.bind_eq_bind, Option.bind_eq_some_iff] at h
    obtain ⟨b, hb, rs, hrs, hr⟩ := h
    simp at hr
    subst hr
    have ih := mapM_all hrs
    refine ⟨by simp [ih.1], ?_⟩
    intro i x hx
    cases i with
    | zero => simp at hx; subst hx; simpa using hb
    | succ i => simp at hx; simpa using ih.2 i x hx
theorem choose_list {α β : Type} (Q : Nat → α → Prop) : ∀ n : Nat, (∀ i, i < n → ∃ a, Q i a) → ∃ l : List α, l.length = n ∧ ∀ i a, l[i]? = some a → Q i a
  | 0, _ => ⟨[], rfl, fun i a h => by simp at h⟩
  | n + 1, h => by
    obtain ⟨l, hl, hq⟩ := choose_list (β := β) Q n (fun i hi => h i (by omega))
    obtain ⟨a, ha⟩ := h n (by omega)
    refine ⟨l ++ [a], by simp [hl], fun i b hb => ?_⟩
    by_cases hi : i < l.length
    · rw [List.getElem?_append_left hi] at hb; exact hq i b hb
    · rw [List.getElem?_append_right (by omega)] at hb
      have : i - l.length = 0 := by
        by_cases h0 : i - l.length = 0
        · exact h0
        · rw [List.getElem?_eq_none (by simp; omega)] at hb; cases hb
      rw [this] at hb
      simp at hb
      have hin : i = n := by omega
      subst hin; subst hb; exact ha
theorem opens_slice {α : Type} {t e : TypeId} {kd : Kd α} {Ok : α → Prop} (ht : P.underlying t = some (.slice e)) (hc : P.cellsOf e = kd.sz) (he : Opens enc P W base spare held e kd Ok) :
    Opens enc P W base spare held t (Kd.slice e kd) (fun l => l.length ≤ maxLen ∧ ∀ a ∈ l, Ok a) := by
  intro fuel cs x h
  rcases Go.Deep.open_slice ht h with ⟨rfl, _⟩ | ⟨a, len, cap, m, n, D, Pl, rfl, hb, hl, hm, hmm, _, hel⟩
  · exact ⟨[], ⟨none, 0, rfl, Nat.le_refl _, Kd.C_nil kd W⟩, by simp, fun a ha => by simp at ha⟩
  · have hlm : len ≤ m := by rw [hmm]; split <;> omega
    have hQ : ∀ i, i < len → ∃ p : α, ∃ c, CellsAt W (a.add (i * P.cellsOf e)) (P.cellsOf e) c ∧ kd.K W p c ∧ Ok p := by
      intro i hi
      obtain ⟨cs', h1, h2⟩ := hel i (by omega)
      obtain ⟨p, hp, hok⟩ := he n cs' _ h2
      exact ⟨p, cs', ⟨_, h1⟩, hp, hok⟩
    obtain ⟨l, hll, hq⟩ := choose_list (β := α) (fun i p => ∃ c, CellsAt W (a.add (i * P.cellsOf e)) (P.cellsOf e) c ∧ kd.K W p c ∧ Ok p) len hQ
    refine ⟨l, ⟨some a, cap, by rw [hll], by omega, ?_⟩, by rw [hll]; exact Nat.le_trans hl hm, ?_⟩
    · rw [hll]
      refine ⟨hll, Nat.le_trans (Nat.le_trans hl hm) (by decide), fun _ => ⟨a, rfl, fun j p hj => ?_⟩⟩
      obtain ⟨c, ⟨b0, hcells⟩, hK, _⟩ := hq j p hj
      refine ⟨c, kd.K_len hK, hK, fun i u hu => ?_⟩
      unfold World.cells? at hcells
      split at hcells
      · have hall := mapM_all hcells
        have hil : i < c.length := by
          rcases Nat.lt_or_ge i c.length with h' | h'
          · exact h'
          · rw [List.getElem?_eq_none h'] at hu; cases hu
        have hi2 : i < P.cellsOf e := by rw [hall.1, List.length_range] at hil; exact hil
        have := hall.2 i i (by rw [List.getElem?_range hi2])
        rw [hu, Go.Deep.add_add, hc] at this
        exact this
      · cases hcells
    · intro p hp
      obtain ⟨i, hi, rfl⟩ := List.getElem_of_mem hp
      obtain ⟨c, _, _, hok⟩ := hq i _ (List.getElem?_eq_getElem hi)
      exact hok
end
end Go.Proofs.YtiopcpkfjikfdaaGreatDoor.Opn
