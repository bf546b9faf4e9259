-- Written by gp.py (a program of this session's, over the kit's print). Not trusted: Lean checks it.
import Derived.Test.YtcjjmfpkhhdmlaaG0h
import Derived.Deep.Slices
import Derived.ChangeArms
namespace Go.Proofs.Ytcjjmfpkhhdmlaa.G
open Go.RowKit Go.Proofs.YtcjjmfpkhhdmlaaW.PrintWords Go.Proofs.YtcjjmfpkhhdmlaaW.PrintLast Go.Proofs.YtcjjmfpkhhdmlaaW.PrintMore
attribute [local go_sem] max2_int min2_int max_two min_two max_three min_three max_four min_four   -- for this text's walks alone
set_option linter.unusedVariables false
set_option linter.unusedSimpArgs false

--import Derived.Deep.Slices
--import Derived.ChangeArms
/-! arguments of any of our kinds, opened: what reads as data reads as a value of the kind -/
/-- type t reads as kind d, with values that are wf -/
def Opens {α : Type} (P : Program) (t : TypeId) (d : Kd α) (wf : α → Prop) : Prop :=
  P.cellsOf t = d.sz ∧ ∀ {H : Type} {enc : TypeId × Value → H} {w : World} {base fuel : Nat} {cs : List Value} {x : DataW H × List MemPlace}, DataW.trod enc P w base (fun _ => true) true fuel t cs = some x → ∃ a, d.K w a cs ∧ wf a
theorem opens_int {P : Program} {t : TypeId} {k : IntKind} (hc : P.cellsOf t = 1) (ht : P.underlying t = some (.int k)) : Opens P t (Kd.int k) (fun n => (Lit.int k n).wf = true) :=
  ⟨hc, fun h => by
    obtain ⟨n, rfl, _, hw⟩ := DataW.trod_int ht h
    exact ⟨n, rfl, hw⟩⟩
theorem opens_bool {P : Program} {t : TypeId} (hc : P.cellsOf t = 1) (ht : P.underlying t = some .bool) : Opens P t Kd.bool (fun _ => True) :=
  ⟨hc, fun h => by
    obtain ⟨b, rfl, _⟩ := DataW.trod_bool ht h
    exact ⟨b, rfl, trivial⟩⟩
theorem opens_slice {α : Type} {P : Program} {t e : TypeId} {d : Kd α} {wf : α → Prop} (hc : P.cellsOf t = 1) (ht : P.underlying t = some (.slice e)) (h0 : Opens P e d wf) : Opens P t (Kd.slice e d) (fun l => l.length ≤ 9223372036854775807 ∧ ∀ x ∈ l, wf x) :=
  ⟨hc, fun {H enc w base fuel cs x} h => by
    rcases Go.Deep.open_slice ht h with ⟨rfl, _⟩ | ⟨a, len, cap, m, n, D, Pl, rfl, hb, hl, hm, hmm, rfl, hx⟩
    · exact ⟨[], ⟨none, 0, rfl, Nat.le_refl _, rfl, by simp, fun h => absurd h (by simp)⟩, by simp, by simp⟩
    · simp only [if_true] at hmm
      subst hmm
      have build : ∀ n, n ≤ len → ∃ l : List α, l.length = n ∧ (∀ j p, l[j]? = some p → ∃ c, c.length = d.sz ∧ d.K w p c ∧ ∀ i u, c[i]? = some u → w.cell? (a.add (j * d.sz + i)) = some u) ∧ ∀ x ∈ l, wf x := by
        intro n
        induction n with
        | zero => exact fun _ => ⟨[], rfl, by simp, by simp⟩
        | succ n ih =>
          intro hn
          obtain ⟨l, hl1, hl2, hl3⟩ := ih (by omega)
          obtain ⟨cs', h1, h2⟩ := hx n (by omega)
          obtain ⟨b, hk, hw⟩ := h0.2 h2
          obtain ⟨_, hcl, hcell⟩ := World.cells?_some h1
          rw [h0.1] at hcl hcell
          refine ⟨l ++ [b], by simp [hl1], fun j p hj => ?_, fun x hx => ?_⟩
          · rcases Nat.lt_or_ge j l.length with hlt | hge
            · rw [List.getElem?_append_left hlt] at hj
              exact hl2 j p hj
            · obtain rfl : j = l.length := by
                have := (List.getElem?_eq_some_iff.1 hj).1
                simp at this; omega
              obtain rfl : b = p := by simpa using hj
              refine ⟨cs', hcl, hk, fun i u hu => ?_⟩
              have hi : i < d.sz := by rw [← hcl]; exact (List.getElem?_eq_some_iff.1 hu).1
              have := hcell i hi
              rw [Go.Deep.add_add] at this
              rw [hl1, this, hu]
          · rcases List.mem_append.1 hx with hx | hx
            · exact hl3 x hx
            · rw [List.mem_singleton.1 hx]; exact hw
      obtain ⟨l, hl1, hl2, hl3⟩ := build len (Nat.le_refl _)
      subst hl1
      have hm' : m ≤ 9223372036854775807 := hm
      exact ⟨l, ⟨some a, m, rfl, hl, rfl, by omega, fun _ => ⟨a, rfl, hl2⟩⟩, by omega, hl3⟩⟩
/-- a slice argument, opened -/
theorem open_slice_arg {α H : Type} {enc : TypeId × Value → H} {P : Program} {W : World} {base : Nat} {t e : TypeId} {d : Kd α} {wf : List α → Prop} (ho : Opens P t (Kd.slice e d) wf) {a : Option Addr} {len cap : Nat} {dd : DataW H} {ps : List MemPlace}
    (h : DataW.Trod enc P W base (fun _ => true) true t (.slice a len cap) dd ps) : ∃ l : List α, len = l.length ∧ l.length ≤ cap ∧ d.C W a l.length l ∧ wf l := by
  obtain ⟨fuel, hf⟩ := h
  obtain ⟨l, ⟨A, c, e1, hl, hC⟩, hw⟩ := ho.2 hf
  injection e1 with e1 _
  injection e1 with e1 e2 e3
  subst e1; subst e2; subst e3
  exact ⟨l, rfl, hl, hC, hw⟩

end Go.Proofs.Ytcjjmfpkhhdmlaa.G
