import Derived.BigRegion
import Derived.BigQuiet
import Derived.Deep.QuietTactic
import Derived.WalkSpells
import Derived.Deep.CutBlock
import Derived.Deep.CutRange
import Derived.Deep.LoopGhost
import Derived.Deep.DeepCutAuto
import Derived.Deep.Slices
import Derived.ChangeArms
import Derived.Test.YtcjjmfpkhhdmlaaRows
import Derived.WalkKit
import Derived.ProofKit
import Derived.OpenShut
import Derived.ShutString
import Derived.ChangeOld
import Derived.Below
import Derived.SizedLaws
import Derived.Test.YtcjjmfpkhhdmlaaMFnExactPalette1
set_option linter.unusedVariables false
set_option linter.unusedSimpArgs false
namespace Go.Proofs.Ytcjjmfpkhhdmlaa.G
open Go.RowKit Go.Proofs.YtcjjmfpkhhdmlaaW.PrintWords Go.Proofs.YtcjjmfpkhhdmlaaW.PrintLast Go.Proofs.YtcjjmfpkhhdmlaaW.PrintMore
attribute [local go_sem] max2_int min2_int max_two min_two max_three min_three max_four min_four   -- for this text's walks alone
/-! ### impl_PixelsOk: function 56 -/
theorem pix_lit (A0 : Option Addr) (c0 : Nat) (l0 : List Int) (w : World) (hr0 : Kd.C (Kd.int .i64) w A0 l0.length l0) (hc0 : l0.length ≤ c0) :
    Calls Try.prog 130 #[.slice A0 l0.length c0] w fun e w' => e = .returned (.bool (!isPx l0)) ∧ Drawn0 w w' := by
  obtain ⟨k, h⟩ := impl_isColour.ev l0
  have A3 := Aside0.mk h
  clear h
  have HR0 := Aside0.mk hr0
  have HC0 := Aside0.mk hc0
  clear hr0 hc0
  go_enter Try.func130, Try.ntmps130
  go_wp2_with (first | (go_at_call 115; (with_reducible refine (impl_isColour.calls k _ _ l0 _ _ ?side1 ?side2 A3.out).mono ?_); (case side1 => exact HR0.out); (case side2 => exact HC0.out); rintro e w' ⟨rfl, ⟨nd, rfl⟩⟩))
  go_ret
  exact ⟨rfl, ⟨_, rfl⟩⟩
def IdxPost (l0 : List (List Int)) (w : World) (e : Ending) (w' : World) : Prop := (∃ r : Int, e = .returned (.int .i64 r) ∧ (0 ≤ r ↔ l0.all isPx = false)) ∧ Drawn0 w w'
theorem idx_lit (A0 : Option Addr) (c0 : Nat) (l0 : List (List Int)) (w : World) (hr0 : Kd.C (Kd.slice 3 (Kd.int .i64)) w A0 l0.length l0) (hc0 : l0.length ≤ c0) (hm : l0.length ≤ 4096) :
    Calls Try.prog 149 #[.slice A0 l0.length c0, .func (.func 130) #[] #[]] w (IdxPost l0 w) := by
  have HR0 := Aside0.mk hr0
  have HC0 := Aside0.mk hc0
  clear hr0 hc0
  go_enter Try.func149, Try.ntmps149
  go_wp2
  go_loopw [8] (fun i w' => ∃ k : Nat, i = .int .i64 k ∧ k ≤ l0.length ∧ Aside0 ((l0.take k).all isPx = true) ∧ Drawn0 w w') (fun i w' => l0.length - (intOf i).toNat)
  case atStart => exact ⟨0, rfl, by omega, ⟨by simp⟩, Drawn0.refl _⟩
  case round =>
    obtain ⟨k, rfl, hk, HA, ⟨m1, rfl⟩⟩ := hrel
    by_cases hlt : k < l0.length
    · obtain ⟨ad, A1, c1, e1, hx, hl, hi⟩ := at_L3 HR0.out (k : Int) (by omega) (by omega)
      cases e1
      rw [Int.toNat_natCast] at hx
      have HR1 := Aside0.mk hi
      have HC1 := Aside0.mk hl
      clear hi hl
      have hgl : rd_L3 l0 k = l0[k] := by simp [rd_L3, hlt]
      cases hp : isPx (rd_L3 l0 k)
      · have HP := Aside0.mk hp
        have HG := Aside0.mk hgl
        clear hp hgl
        go_wp2_with (first | (go_at_call 130; (with_reducible refine (pix_lit _ _ (rd_L3 l0 k) _ ?side1 ?side2).mono ?_); (case side1 => exact HR1.out); (case side2 => exact HC1.out); (rw [HP.out]); rintro e w' ⟨rfl, ⟨nd, rfl⟩⟩))
        go_ret
        exact ⟨⟨_, rfl, by simp only [Int.natCast_nonneg, true_iff]; rw [Bool.eq_false_iff]; intro h; rw [List.all_eq_true] at h; have := h l0[k] (List.getElem_mem _); rw [← HG.out, HP.out] at this; simp at this⟩, by repeat (first | exact Drawn0.refl _ | apply Drawn0.step)⟩
      · have HP := Aside0.mk hp
        have HG := Aside0.mk hgl
        clear hp hgl
        go_wp2_with (first | (go_at_call 130; (with_reducible refine (pix_lit _ _ (rd_L3 l0 k) _ ?side1 ?side2).mono ?_); (case side1 => exact HR1.out); (case side2 => exact HC1.out); (rw [HP.out]); rintro e w' ⟨rfl, ⟨nd, rfl⟩⟩))
        go_roundw
        case rel => exact ⟨k + 1, by go_num, by omega, ⟨by rw [List.take_succ_eq_append_getElem hlt, List.all_append, HA.out]; simp [← HG.out, HP.out]⟩, by repeat (first | exact Drawn0.refl _ | apply Drawn0.step)⟩
        case measure => simp [intOf]; omega
    · obtain rfl : k = l0.length := by omega
      go_wp2
      go_ret
      exact ⟨⟨_, rfl, by have := HA.out; rw [List.take_length] at this; simp [this]⟩, by repeat (first | exact Drawn0.refl _ | apply Drawn0.step)⟩
theorem cont_lit (A0 : Option Addr) (c0 : Nat) (l0 : List (List Int)) (w : World) (hr0 : Kd.C (Kd.slice 3 (Kd.int .i64)) w A0 l0.length l0) (hc0 : l0.length ≤ c0) (hm : l0.length ≤ 4096) :
    Calls Try.prog 92 #[.slice A0 l0.length c0, .func (.func 130) #[] #[]] w fun e w' => e = .returned (.bool (!l0.all isPx)) ∧ Drawn0 w w' := by
  have HR0 := Aside0.mk hr0
  have HC0 := Aside0.mk hc0
  clear hr0 hc0
  have key : ∀ r : Int, (0 ≤ r ↔ l0.all isPx = false) → (0 ≤ r) = (l0.all isPx = false) := fun r h => propext h
  cases ha : l0.all isPx
  all_goals
    have HAA := Aside0.mk ha
    clear ha key
    go_enter Try.func92, Try.ntmps92
    go_wp2_with (first | (go_at_call 149; (with_reducible refine (idx_lit _ _ l0 _ ?side1 ?side2 hm).mono ?_); (case side1 => exact HR0.out); (case side2 => exact HC0.out); rintro e w' ⟨⟨r, rfl, hq⟩, ⟨nd, rfl⟩⟩; rw [HAA.out] at hq; (first | have hq2 : 0 ≤ r := hq.2 rfl | have hq2 : ¬ 0 ≤ r := fun z => absurd (hq.1 z) (by decide)); clear hq))
    go_ret
    exact ⟨by simp [hq2], ⟨_, rfl⟩⟩
def impl_PixelsOk.f (l0 : List (List Int)) : Option Bool := some (decide (l0.length ≤ 4096) && l0.all isPx)
theorem impl_PixelsOk.calls (A0 : Option Addr) (c0 : Nat) (l0 : List (List Int)) (r : Bool) (w : World) (hr0 : Kd.C (Kd.slice 3 (Kd.int .i64)) w A0 l0.length l0) (hc0 : l0.length ≤ c0) (h : impl_PixelsOk.f l0 = some r) :
    Calls Try.prog 56 #[.slice A0 l0.length c0] w fun e w' => e = .returned (.bool r) ∧ Drawn0 w w' := by
  have HR0 := Aside0.mk hr0
  have HC0 := Aside0.mk hc0
  obtain rfl := Option.some.inj h
  clear hr0 hc0 h
  by_cases hm : l0.length ≤ 4096
  · have hm1 : decide ((l0.length : Int) ≤ 4096) = true := decide_eq_true (by omega)
    cases ha : l0.all isPx
    all_goals
      have HAA := Aside0.mk ha
      clear ha
      go_enter Try.func56, Try.ntmps56
      go_wp2_with (first | (go_at_call 92; (with_reducible refine (cont_lit _ _ l0 _ ?side1 ?side2 hm).mono ?_); (case side1 => exact HR0.out); (case side2 => exact HC0.out); rw [HAA.out]; rintro e w' ⟨rfl, ⟨nd, rfl⟩⟩))
      go_ret
      exact ⟨by simp [hm], ⟨_, rfl⟩⟩
  · have hm1 : decide ((l0.length : Int) ≤ 4096) = false := decide_eq_false (by omega)
    go_enter Try.func56, Try.ntmps56
    go_wp2
    go_ret
    exact ⟨by simp [hm], ⟨0, rfl⟩⟩
end Go.Proofs.Ytcjjmfpkhhdmlaa.G

namespace Go.Proofs.Ytcjjmfpkhhdmlaa.G
open Go.RowKit Go.Proofs.YtcjjmfpkhhdmlaaW.PrintWords Go.Proofs.YtcjjmfpkhhdmlaaW.PrintLast Go.Proofs.YtcjjmfpkhhdmlaaW.PrintMore
attribute [local go_sem] max2_int min2_int max_two min_two max_three min_three max_four min_four   -- for this text's walks alone
/-! stable sorting: plain laws (insertion, swaps of ranges, merging in place) -/
section
variable {α : Type} {key : α → Int}
def Sorted_ (key : α → Int) (l : List α) : Prop := l.Pairwise fun a b => key a ≤ key b
/-- of each key the same, in the same order -/
def Alike (key : α → Int) (l l' : List α) : Prop := l'.length = l.length ∧ ∀ v : Int, l'.filter (fun x => decide (key x = v)) = l.filter (fun x => decide (key x = v))
theorem Alike.refl (l : List α) : Alike key l l := ⟨rfl, fun _ => rfl⟩
theorem Alike.trans {a b c : List α} (h : Alike key a b) (k : Alike key b c) : Alike key a c := ⟨k.1.trans h.1, fun v => (k.2 v).trans (h.2 v)⟩
theorem Alike.app {a a' b b' : List α} (h : Alike key a a') (k : Alike key b b') : Alike key (a ++ b) (a' ++ b') :=
  ⟨by rw [List.length_append, List.length_append, h.1, k.1], fun v => by rw [List.filter_append, List.filter_append, h.2 v, k.2 v]⟩
theorem Alike.mem {l l' : List α} (h : Alike key l l') (x : α) : x ∈ l' ↔ x ∈ l := by
  have e := h.2 (key x)
  constructor
  · intro hx
    have : x ∈ l'.filter (fun y => decide (key y = key x)) := List.mem_filter.2 ⟨hx, by simp⟩
    rw [e] at this
    exact (List.mem_filter.1 this).1
  · intro hx
    have : x ∈ l.filter (fun y => decide (key y = key x)) := List.mem_filter.2 ⟨hx, by simp⟩
    rw [← e] at this
    exact (List.mem_filter.1 this).1
theorem Alike.blocks {A B : List α} (h : ∀ a ∈ A, ∀ b ∈ B, key b < key a) : Alike key (A ++ B) (B ++ A) := by
  refine ⟨by rw [List.length_append, List.length_append]; omega, fun v => ?_⟩
  rw [List.filter_append, List.filter_append]
  by_cases hb : ∃ b ∈ B, key b = v
  · obtain ⟨b, hb, e⟩ := hb
    have : A.filter (fun x => decide (key x = v)) = [] := by
      rw [List.filter_eq_nil_iff]
      intro a ha
      have := h a ha b hb
      simp only [decide_eq_true_eq]
      omega
    rw [this, List.append_nil, List.nil_append]
  · have : B.filter (fun x => decide (key x = v)) = [] := by
      rw [List.filter_eq_nil_iff]
      intro b hb'
      simp only [decide_eq_true_eq]
      exact fun e => hb ⟨b, hb', e⟩
    rw [this, List.append_nil, List.nil_append]
theorem Sorted_.app {A B : List α} (hA : Sorted_ key A) (hB : Sorted_ key B) (h : ∀ a ∈ A, ∀ b ∈ B, key a ≤ key b) : Sorted_ key (A ++ B) := List.pairwise_append.2 ⟨hA, hB, h⟩
theorem Sorted_.left {A B : List α} (h : Sorted_ key (A ++ B)) : Sorted_ key A := (List.pairwise_append.1 h).1
theorem Sorted_.right {A B : List α} (h : Sorted_ key (A ++ B)) : Sorted_ key B := (List.pairwise_append.1 h).2.1
theorem Sorted_.cross {A B : List α} (h : Sorted_ key (A ++ B)) : ∀ a ∈ A, ∀ b ∈ B, key a ≤ key b := (List.pairwise_append.1 h).2.2
theorem snoc_of {l : List α} (h : l ≠ []) : ∃ l' x, l = l' ++ [x] := ⟨l.dropLast, l.getLast h, (List.dropLast_concat_getLast h).symm⟩
theorem Sorted_.short {l : List α} (h : l.length ≤ 1) : Sorted_ key l := by
  match l, h with
  | [], _ => exact List.Pairwise.nil
  | [x], _ => exact List.pairwise_singleton _ _
/-- two elements change places -/
def swp (l : List α) (i j : Nat) : List α := match l[i]?, l[j]? with
  | some a, some b => (l.set i b).set j a
  | _, _ => l
theorem swp_length (l : List α) (i j : Nat) : (swp l i j).length = l.length := by unfold swp; split <;> simp
theorem swp_mid (P Q R : List α) (a b : α) (i j : Nat) (hi : i = P.length) (hj : j = P.length + 1 + Q.length) : swp (P ++ a :: (Q ++ b :: R)) i j = P ++ b :: (Q ++ a :: R) := by
  subst hi hj
  have h1 : (P ++ a :: (Q ++ b :: R))[P.length]? = some a := by simp
  have h2 : (P ++ a :: (Q ++ b :: R))[P.length + 1 + Q.length]? = some b := by
    rw [List.getElem?_append_right (by omega), show P.length + 1 + Q.length - P.length = Q.length + 1 by omega, List.getElem?_cons_succ]
    simp
  unfold swp
  rw [h1, h2]
  simp only []
  rw [List.set_append_right _ _ (Nat.le_refl _), Nat.sub_self, List.set_cons_zero, List.set_append_right _ _ (by omega), show P.length + 1 + Q.length - P.length = Q.length + 1 by omega, List.set_cons_succ, List.set_append_right _ _ (Nat.le_refl _), Nat.sub_self, List.set_cons_zero]
theorem swp_next (P R : List α) (a b : α) (i j : Nat) (hi : i = P.length) (hj : j = P.length + 1) : swp (P ++ a :: b :: R) i j = P ++ b :: a :: R := swp_mid P [] R a b i j hi hj
theorem swp_back (P R : List α) (a b : α) (i j : Nat) (hi : i = P.length + 1) (hj : j = P.length) : swp (P ++ a :: b :: R) i j = P ++ b :: a :: R := by
  subst hi hj
  have h1 : (P ++ a :: b :: R)[P.length]? = some a := by simp
  have h2 : (P ++ a :: b :: R)[P.length + 1]? = some b := by
    rw [List.getElem?_append_right (by omega), show P.length + 1 - P.length = 1 by omega]; rfl
  unfold swp
  rw [h1, h2]
  simp only []
  rw [List.set_append_right _ _ (by omega), show P.length + 1 - P.length = 1 by omega, List.set_cons_succ, List.set_cons_zero, List.set_append_right _ _ (Nat.le_refl _), Nat.sub_self, List.set_cons_zero]
/-- two ranges change places, an element at a time -/
def swpR (l : List α) (a b : Nat) : Nat → List α
  | 0 => l
  | n + 1 => swp (swpR l a b n) (a + n) (b + n)
theorem swpR_length (l : List α) (a b n : Nat) : (swpR l a b n).length = l.length := by
  induction n with
  | zero => rfl
  | succ n ih => rw [swpR, swp_length, ih]
theorem swpR_mid : ∀ (n : Nat) (P A M B R : List α) (i j : Nat), A.length = n → B.length = n → i = P.length → j = P.length + n + M.length → swpR (P ++ (A ++ (M ++ (B ++ R)))) i j n = P ++ (B ++ (M ++ (A ++ R))) := by
  intro n
  induction n with
  | zero =>
    intro P A M B R i j hA hB hi hj
    rw [List.length_eq_zero_iff.1 hA, List.length_eq_zero_iff.1 hB]
    rfl
  | succ n ih =>
    intro P A M B R i j hA hB hi hj
    obtain ⟨A', a, rfl⟩ := snoc_of (l := A) (by intro e; rw [e] at hA; simp at hA)
    obtain ⟨B', b, rfl⟩ := snoc_of (l := B) (by intro e; rw [e] at hB; simp at hB)
    rw [List.length_append, List.length_singleton] at hA hB
    have e : P ++ ((A' ++ [a]) ++ (M ++ ((B' ++ [b]) ++ R))) = P ++ (A' ++ ((a :: M) ++ (B' ++ (b :: R)))) := by simp
    rw [swpR, e, ih P A' (a :: M) B' (b :: R) i j (by omega) (by omega) hi (by simp; omega)]
    have e2 : P ++ (B' ++ ((a :: M) ++ (A' ++ (b :: R)))) = (P ++ B') ++ a :: ((M ++ A') ++ b :: R) := by simp
    rw [e2, swp_mid (P ++ B') (M ++ A') R a b (i + n) (j + n) (by rw [List.length_append]; omega) (by rw [List.length_append, List.length_append]; omega)]
    simp
/-! #### insertion -/
def OutI (key : α → Int) (l : List α) (a i : Nat) (ys : List α) : Prop := ∃ m, ys = l.take a ++ m ++ l.drop i ∧ Sorted_ key m ∧ Alike key ((l.drop a).take (i - a)) m
def InsI (key : α → Int) (l : List α) (a i : Nat) (ys : List α) (j : Nat) : Prop :=
  ∃ u x v, ys = l.take a ++ (u ++ x :: v) ++ l.drop (i + 1) ∧ u.length + a = j ∧ v.length + j = i ∧ Sorted_ key (u ++ v) ∧ (∀ y ∈ v, key x < key y) ∧ Alike key ((l.drop a).take (i + 1 - a)) (u ++ x :: v)
theorem OutI.start (l : List α) (a : Nat) (h : a < l.length) : OutI key l a (a + 1) l := by
  refine ⟨(l.drop a).take 1, ?_, Sorted_.short (by rw [List.length_take]; omega), ?_⟩
  · rw [show l.drop (a + 1) = (l.drop a).drop 1 by rw [List.drop_drop], List.append_assoc, List.take_append_drop, List.take_append_drop]
  · rw [show a + 1 - a = 1 by omega]; exact Alike.refl _
theorem OutI.none (l : List α) (a : Nat) : OutI key l a a l := ⟨[], by simp, List.Pairwise.nil, by simp [Alike.refl]⟩
theorem OutI.length {l ys : List α} {a i : Nat} (h : OutI key l a i ys) (ha : a ≤ i) (hi : i ≤ l.length) : ys.length = l.length := by
  obtain ⟨m, rfl, _, h2⟩ := h
  have := h2.1
  simp only [List.length_append, List.length_take, List.length_drop] at *
  omega
theorem InsI.length {l ys : List α} {a i j : Nat} (h : InsI key l a i ys j) (ha : a ≤ i) (hi : i < l.length) : ys.length = l.length := by
  obtain ⟨u, x, v, rfl, h1, h2, _⟩ := h
  simp only [List.length_append, List.length_take, List.length_drop, List.length_cons] at *
  omega
theorem take_next (l : List α) (a i : Nat) (ha : a ≤ i) (hi : i < l.length) : (l.drop a).take (i + 1 - a) = (l.drop a).take (i - a) ++ [l[i]] := by
  have h1 : i - a < (l.drop a).length := by rw [List.length_drop]; omega
  rw [show i + 1 - a = (i - a) + 1 by omega, List.take_succ_eq_append_getElem h1]
  congr 2
  rw [List.getElem_drop]
  congr 1
  omega
theorem InsI.start {l ys : List α} {a i : Nat} (h : OutI key l a i ys) (ha : a ≤ i) (hi : i < l.length) : InsI key l a i ys i := by
  obtain ⟨m, rfl, h1, h2⟩ := h
  have h3 := h2.1
  refine ⟨m, l[i], [], ?_, ?_, by simp, by simpa using h1, by simp, ?_⟩
  · rw [List.drop_eq_getElem_cons hi]; simp
  · rw [List.length_take, List.length_drop] at h3; omega
  · rw [take_next l a i ha hi]
    exact Alike.app h2 (Alike.refl _)
theorem InsI.at {l ys : List α} {a i j : Nat} (h : InsI key l a i ys j) (hj : a < j) (ha : a ≤ l.length) : ∃ P y x R, ys = P ++ y :: x :: R ∧ P.length + 1 = j ∧ (key x < key y → InsI key l a i (P ++ x :: y :: R) (j - 1)) ∧ (¬ key x < key y → OutI key l a (i + 1) ys) := by
  obtain ⟨u, x, v, rfl, h1, h2, h3, h4, h5⟩ := h
  have hu : u ≠ [] := fun e => by rw [e] at h1; simp at h1; omega
  obtain ⟨u', y, rfl⟩ := snoc_of hu
  rw [List.length_append, List.length_singleton] at h1
  refine ⟨l.take a ++ u', y, x, v ++ l.drop (i + 1), by simp, by rw [List.length_append, List.length_take]; omega, fun hk => ?_, fun hk => ?_⟩
  · refine ⟨u', x, y :: v, by simp, by omega, by rw [List.length_cons]; omega, by simpa using h3, ?_, ?_⟩
    · intro z hz
      rcases List.mem_cons.1 hz with rfl | hz
      · exact hk
      · exact h4 z hz
    · refine h5.trans ?_
      have : Alike key ([y] ++ [x]) ([x] ++ [y]) := Alike.blocks (by simpa using hk)
      have := Alike.app (Alike.refl u') (Alike.app this (Alike.refl v))
      simpa using this
  · refine ⟨(u' ++ [y]) ++ x :: v, by simp, ?_, h5⟩
    have hs : Sorted_ key ((u' ++ [y]) ++ v) := h3
    refine Sorted_.app hs.left ?_ ?_
    · exact List.pairwise_cons.2 ⟨fun z hz => Int.le_of_lt (h4 z hz), hs.right⟩
    · intro b hb z hz
      have hby : key b ≤ key y := by
        rcases List.mem_append.1 hb with hb | hb
        · exact hs.left.cross b hb y (by simp)
        · rw [List.mem_singleton.1 hb]; exact Int.le_refl _
      rcases List.mem_cons.1 hz with rfl | hz
      · omega
      · exact hs.cross b hb z hz
theorem InsI.low {l ys : List α} {a i : Nat} (h : InsI key l a i ys a) : OutI key l a (i + 1) ys := by
  obtain ⟨u, x, v, rfl, h1, h2, h3, h4, h5⟩ := h
  obtain rfl : u = [] := List.length_eq_zero_iff.1 (by omega)
  exact ⟨_, rfl, List.pairwise_cons.2 ⟨fun z hz => Int.le_of_lt (h4 z hz), h3⟩, h5⟩
/-! #### merging in place -/
/-- a range is sorted, stably; the rest stays -/
def SegS (key : α → Int) (l : List α) (a b : Nat) (ys : List α) : Prop := ∃ m, ys = l.take a ++ m ++ l.drop b ∧ Sorted_ key m ∧ Alike key ((l.drop a).take (b - a)) m
theorem OutI.seg {l ys : List α} {a b : Nat} (h : OutI key l a b ys) : SegS key l a b ys := h
theorem SegS.length {l ys : List α} {a b : Nat} (h : SegS key l a b ys) (ha : a ≤ b) (hb : b ≤ l.length) : ys.length = l.length := OutI.length h ha hb
theorem SegS.same {l ys : List α} {a b : Nat} (h : SegS key l a b ys) (ha : a ≤ b) (hb : b ≤ l.length) : Alike key l ys := by
  obtain ⟨m, rfl, _, h2⟩ := h
  have e : l = l.take a ++ (l.drop a).take (b - a) ++ l.drop b := by
    have : l.drop b = (l.drop a).drop (b - a) := by rw [List.drop_drop]; congr 1; omega
    rw [this, List.append_assoc, List.take_append_drop, List.take_append_drop]
  have := Alike.app (Alike.app (Alike.refl (key := key) (l.take a)) h2) (Alike.refl (l.drop b))
  rwa [← e] at this
/-- a list in pieces: p, then A from a to m, B from m to b, then s -/
def Cut4 (l : List α) (a m b : Nat) (p A B s : List α) : Prop := l = p ++ (A ++ (B ++ s)) ∧ p.length = a ∧ p.length + A.length = m ∧ p.length + A.length + B.length = b
theorem Cut4.of (l : List α) (a m b : Nat) (h1 : a ≤ m) (h2 : m ≤ b) (h3 : b ≤ l.length) : Cut4 l a m b (l.take a) ((l.drop a).take (m - a)) ((l.drop m).take (b - m)) (l.drop b) := by
  refine ⟨?_, by rw [List.length_take]; omega, by rw [List.length_take, List.length_take, List.length_drop]; omega, by simp only [List.length_take, List.length_drop]; omega⟩
  have e1 : l.drop b = (l.drop m).drop (b - m) := by rw [List.drop_drop]; congr 1; omega
  have e2 : l.drop m = (l.drop a).drop (m - a) := by rw [List.drop_drop]; congr 1; omega
  rw [e1, List.take_append_drop, e2, List.take_append_drop, List.take_append_drop]
theorem Cut4.seg {l : List α} {a m b : Nat} {p A B s C : List α} (h : Cut4 l a m b p A B s) (hs : Sorted_ key C) (hc : Alike key (A ++ B) C) : SegS key l a b (p ++ (C ++ s)) := by
  obtain ⟨rfl, rfl, h2, h3⟩ := h
  refine ⟨C, ?_, hs, ?_⟩
  · rw [List.take_left', List.append_assoc]
    · congr 2
      rw [← h3, ← List.append_assoc, ← List.append_assoc, List.drop_left']
      rw [List.length_append, List.length_append]
    · rfl
  · rw [List.drop_left', ← h3, ← List.append_assoc, List.take_left']
    · exact hc
    · rw [List.length_append]; omega
    · rfl
end
section
variable {α : Type} {key : α → Int}
theorem merge_cut {A1 A2 B1 B2 C1 C2 : List α} (hA : Sorted_ key (A1 ++ A2)) (hB : Sorted_ key (B1 ++ B2)) (h1 : ∀ x ∈ A1, ∀ y ∈ B2, key x ≤ key y) (h2 : ∀ x ∈ A2, ∀ y ∈ B1, key y < key x)
    (s1 : Sorted_ key C1) (a1 : Alike key (A1 ++ B1) C1) (s2 : Sorted_ key C2) (a2 : Alike key (A2 ++ B2) C2) : Sorted_ key (C1 ++ C2) ∧ Alike key ((A1 ++ A2) ++ (B1 ++ B2)) (C1 ++ C2) := by
  constructor
  · refine Sorted_.app s1 s2 (fun x hx y hy => ?_)
    rcases List.mem_append.1 ((a1.mem x).1 hx) with hx | hx
    · rcases List.mem_append.1 ((a2.mem y).1 hy) with hy | hy
      · exact hA.cross x hx y hy
      · exact h1 x hx y hy
    · rcases List.mem_append.1 ((a2.mem y).1 hy) with hy | hy
      · exact Int.le_of_lt (h2 y hy x hx)
      · exact hB.cross x hx y hy
  · have h3 : Alike key ((A1 ++ A2) ++ (B1 ++ B2)) ((A1 ++ B1) ++ (A2 ++ B2)) := by
      have := Alike.app (Alike.refl (key := key) A1) (Alike.app (Alike.blocks h2) (Alike.refl (key := key) B2))
      simpa [List.append_assoc] using this
    exact h3.trans (Alike.app a1 a2)
theorem cut_ok {p A B s : List α} (hA : Sorted_ key A) (hB : Sorted_ key B) (st fi : Nat) (h0 : p.length ≤ st) (h1 : st ≤ p.length + A.length) (h2 : p.length + A.length ≤ fi) (h3 : fi ≤ p.length + A.length + B.length)
    (hlo : st = p.length ∨ fi = p.length + A.length + B.length ∨ ∀ x y, (p ++ (A ++ (B ++ s)))[st - 1]? = some x → (p ++ (A ++ (B ++ s)))[fi]? = some y → key x ≤ key y)
    (hhi : st = p.length + A.length ∨ fi = p.length + A.length ∨ ∀ x y, (p ++ (A ++ (B ++ s)))[st]? = some x → (p ++ (A ++ (B ++ s)))[fi - 1]? = some y → key y < key x) :
    ∃ A1 A2 B1 B2, A = A1 ++ A2 ∧ B = B1 ++ B2 ∧ p.length + A1.length = st ∧ p.length + A.length + B1.length = fi ∧ (∀ x ∈ A1, ∀ y ∈ B2, key x ≤ key y) ∧ (∀ x ∈ A2, ∀ y ∈ B1, key y < key x) := by
  obtain ⟨A1, A2, rfl, hl1⟩ : ∃ A1 A2, A = A1 ++ A2 ∧ p.length + A1.length = st := ⟨A.take (st - p.length), A.drop (st - p.length), (List.take_append_drop _ _).symm, by rw [List.length_take]; omega⟩
  obtain ⟨B1, B2, rfl, hl2⟩ : ∃ B1 B2, B = B1 ++ B2 ∧ p.length + (A1 ++ A2).length + B1.length = fi := ⟨B.take (fi - (p.length + (A1 ++ A2).length)), B.drop (fi - (p.length + (A1 ++ A2).length)), (List.take_append_drop _ _).symm, by rw [List.length_take]; omega⟩
  refine ⟨A1, A2, B1, B2, rfl, rfl, hl1, hl2, ?_, ?_⟩
  · intro x hx y hy
    obtain ⟨A1', z, rfl⟩ := snoc_of (l := A1) (by intro e; rw [e] at hx; simp at hx)
    obtain ⟨w, B2', rfl⟩ : ∃ w B2', B2 = w :: B2' := by
      cases B2 with
      | nil => simp at hy
      | cons w t => exact ⟨w, t, rfl⟩
    simp only [List.length_append, List.length_cons, List.length_nil] at *
    have hz : key z ≤ key w := by
      rcases hlo with h | h | h
      · omega
      · omega
      · refine h z w ?_ ?_
        · rw [List.getElem?_append_right (by omega), List.append_assoc, List.append_assoc, List.getElem?_append_right (by omega), show st - 1 - p.length - A1'.length = 0 by omega]; rfl
        · rw [List.getElem?_append_right (by omega), List.getElem?_append_right (by simp; omega), List.append_assoc, List.getElem?_append_right (by simp; omega)]
          simp only [List.length_append, List.length_cons, List.length_nil]
          rw [show fi - p.length - (A1'.length + (0 + 1) + A2.length) - B1.length = 0 by omega]; rfl
    have hx' : key x ≤ key z := by
      rcases List.mem_append.1 hx with hx | hx
      · exact hA.left.cross x hx z (by simp)
      · rw [List.mem_singleton.1 hx]; exact Int.le_refl _
    have hy' : key w ≤ key y := by
      rcases List.mem_cons.1 hy with rfl | hy
      · exact Int.le_refl _
      · exact (List.pairwise_cons.1 hB.right).1 y hy
    omega
  · intro x hx y hy
    obtain ⟨z, A2', rfl⟩ : ∃ z A2', A2 = z :: A2' := by
      cases A2 with
      | nil => simp at hx
      | cons w t => exact ⟨w, t, rfl⟩
    obtain ⟨B1', w, rfl⟩ := snoc_of (l := B1) (by intro e; rw [e] at hy; simp at hy)
    simp only [List.length_append, List.length_cons, List.length_nil] at *
    have hz : key w < key z := by
      rcases hhi with h | h | h
      · omega
      · omega
      · refine h z w ?_ ?_
        · rw [List.getElem?_append_right (by omega), List.append_assoc, List.getElem?_append_right (by omega), show st - p.length - A1.length = 0 by omega]; rfl
        · rw [List.getElem?_append_right (by omega), List.getElem?_append_right (by simp; omega), List.append_assoc, List.append_assoc, List.getElem?_append_right (by simp; omega)]
          simp only [List.length_append, List.length_cons, List.length_nil]
          rw [show fi - 1 - p.length - (A1.length + (A2'.length + 1)) - B1'.length = 0 by omega]; rfl
    have hx' : key z ≤ key x := by
      rcases List.mem_cons.1 hx with rfl | hx
      · exact Int.le_refl _
      · exact (List.pairwise_cons.1 hA.right).1 x hx
    have hy' : key y ≤ key w := by
      rcases List.mem_append.1 hy with hy | hy
      · exact hB.left.cross y hy w (by simp)
      · rw [List.mem_singleton.1 hy]; exact Int.le_refl _
    omega
theorem one_left {x : α} {B1 B2 : List α} (hB : Sorted_ key (B1 ++ B2)) (h1 : ∀ y ∈ B1, key y < key x) (h2 : ∀ y ∈ B2, key x ≤ key y) : Sorted_ key (B1 ++ x :: B2) ∧ Alike key ([x] ++ (B1 ++ B2)) (B1 ++ x :: B2) := by
  constructor
  · refine Sorted_.app hB.left (List.pairwise_cons.2 ⟨h2, hB.right⟩) (fun a ha b hb => ?_)
    rcases List.mem_cons.1 hb with rfl | hb
    · exact Int.le_of_lt (h1 a ha)
    · exact hB.cross a ha b hb
  · have := Alike.app (Alike.blocks (key := key) (A := [x]) (B := B1) (fun a ha b hb => by rw [List.mem_singleton.1 ha]; exact h1 b hb)) (Alike.refl (key := key) B2)
    simpa [List.append_assoc] using this
theorem one_right {x : α} {A1 A2 : List α} (hA : Sorted_ key (A1 ++ A2)) (h1 : ∀ y ∈ A1, key y ≤ key x) (h2 : ∀ y ∈ A2, key x < key y) : Sorted_ key (A1 ++ x :: A2) ∧ Alike key ((A1 ++ A2) ++ [x]) (A1 ++ x :: A2) := by
  constructor
  · refine Sorted_.app hA.left (List.pairwise_cons.2 ⟨fun y hy => Int.le_of_lt (h2 y hy), hA.right⟩) (fun a ha b hb => ?_)
    rcases List.mem_cons.1 hb with rfl | hb
    · exact h1 a ha
    · exact hA.cross a ha b hb
  · have := Alike.app (Alike.refl (key := key) A1) (Alike.blocks (key := key) (A := A2) (B := [x]) (fun a ha b hb => by rw [List.mem_singleton.1 hb]; exact h2 a ha))
    simpa [List.append_assoc] using this
/-- a sorted list, cut where a binary search ends -/
theorem search_cut {P : α → Prop} {p B s : List α} (hB : Sorted_ key B) (up : ∀ a b, key a ≤ key b → P b → P a) (i : Nat) (h0 : p.length ≤ i) (h1 : i ≤ p.length + B.length)
    (hlo : i = p.length ∨ ∀ y, (p ++ (B ++ s))[i - 1]? = some y → P y) (hhi : i = p.length + B.length ∨ ∀ y, (p ++ (B ++ s))[i]? = some y → ¬ P y) :
    ∃ B1 B2, B = B1 ++ B2 ∧ p.length + B1.length = i ∧ (∀ y ∈ B1, P y) ∧ (∀ y ∈ B2, ¬ P y) := by
  obtain ⟨B1, B2, rfl, hl⟩ : ∃ B1 B2, B = B1 ++ B2 ∧ p.length + B1.length = i := ⟨B.take (i - p.length), B.drop (i - p.length), (List.take_append_drop _ _).symm, by rw [List.length_take]; omega⟩
  refine ⟨B1, B2, rfl, hl, ?_, ?_⟩
  · intro y hy
    obtain ⟨B1', z, rfl⟩ := snoc_of (l := B1) (by intro e; rw [e] at hy; simp at hy)
    simp only [List.length_append, List.length_cons, List.length_nil] at *
    have hz : P z := by
      rcases hlo with h | h
      · omega
      · refine h z ?_
        rw [List.getElem?_append_right (by omega), List.append_assoc, List.append_assoc, List.getElem?_append_right (by omega), show i - 1 - p.length - B1'.length = 0 by omega]; rfl
    rcases List.mem_append.1 hy with hy | hy
    · exact up y z (hB.left.cross y hy z (by simp)) hz
    · rw [List.mem_singleton.1 hy]; exact hz
  · intro y hy
    obtain ⟨z, B2', rfl⟩ : ∃ z B2', B2 = z :: B2' := by
      cases B2 with
      | nil => simp at hy
      | cons w t => exact ⟨w, t, rfl⟩
    simp only [List.length_append, List.length_cons] at *
    have hz : ¬ P z := by
      rcases hhi with h | h
      · omega
      · refine h z ?_
        rw [List.getElem?_append_right (by omega), List.append_assoc, List.getElem?_append_right (by omega), show i - p.length - B1.length = 0 by omega]; rfl
    rcases List.mem_cons.1 hy with rfl | hy
    · exact hz
    · exact fun hp => hz (up z y ((List.pairwise_cons.1 hB.right).1 y hy) hp)
/-! #### runs -/
def run_ (l : List α) (i n : Nat) : List α := (l.drop i).take n
theorem run_near {l m : List α} {a b : Nat} (ha : a ≤ b) (hb : b ≤ l.length) (hm : m.length = b - a) (i n : Nat) (h : i + n ≤ a) : run_ (l.take a ++ m ++ l.drop b) i n = run_ l i n := by
  unfold run_
  rw [List.append_assoc, List.drop_append_of_le_length (by rw [List.length_take]; omega), List.take_append_of_le_length (by rw [List.length_drop, List.length_take]; omega), List.drop_take, List.take_take]
  congr 1
  omega
theorem run_far {l m : List α} {a b : Nat} (ha : a ≤ b) (hb : b ≤ l.length) (hm : m.length = b - a) (i n : Nat) (h : b ≤ i) : run_ (l.take a ++ m ++ l.drop b) i n = run_ l i n := by
  unfold run_
  have e : (l.take a ++ m).length = b := by rw [List.length_append, List.length_take]; omega
  rw [List.drop_append, List.drop_of_length_le (by omega), List.nil_append, List.drop_drop, e]
  congr 2
  omega
theorem run_here {l m : List α} {a b : Nat} (ha : a ≤ b) (hb : b ≤ l.length) (hm : m.length = b - a) (n : Nat) (h : n = b - a ∨ b = l.length ∧ b - a ≤ n) : run_ (l.take a ++ m ++ l.drop b) a n = m := by
  unfold run_
  rw [List.append_assoc, List.drop_left' (by rw [List.length_take]; omega)]
  rcases h with rfl | ⟨h, h'⟩
  · rw [List.take_left' hm]
  · rw [List.drop_of_length_le (by omega), List.append_nil, List.take_of_length_le (by omega)]
def byKey (key : α → Int) (l : List α) : Nat → List α
  | 0 => []
  | n + 1 => byKey key l n ++ l.filter fun x => decide (key x = n)
theorem byKey_alike {l l' : List α} (h : Alike key l l') (n : Nat) : byKey key l' n = byKey key l n := by
  induction n with
  | zero => rfl
  | succ n ih => simp only [byKey, ih, h.2]
theorem sorted_parts (v : Int) : ∀ l : List α, Sorted_ key l → l = l.filter (fun x => decide (key x < v)) ++ l.filter (fun x => decide (v ≤ key x)) := by
  intro l
  induction l with
  | nil => intro _; rfl
  | cons x l ih =>
    intro h
    obtain ⟨h1, h2⟩ := List.pairwise_cons.1 h
    by_cases hx : key x < v
    · rw [List.filter_cons_of_pos (by simpa using hx), List.filter_cons_of_neg (by simp; omega), List.cons_append, ← ih h2]
    · have e : l.filter (fun x => decide (key x < v)) = [] := by
        rw [List.filter_eq_nil_iff]
        intro y hy
        have := h1 y hy
        simp only [decide_eq_true_eq]
        omega
      rw [List.filter_cons_of_neg (by simpa using hx), e, List.nil_append, List.filter_cons_of_pos (by simp; omega)]
      congr 1
      have := ih h2
      rwa [e, List.nil_append] at this
theorem byKey_sorted : ∀ (n : Nat) (l : List α), Sorted_ key l → (∀ x ∈ l, 0 ≤ key x) → l.filter (fun x => decide (key x < n)) = byKey key l n := by
  intro n
  induction n with
  | zero =>
    intro l _ h0
    simp only [byKey]
    rw [List.filter_eq_nil_iff]
    intro x hx
    have := h0 x hx
    simp
    omega
  | succ n ih =>
    intro l h h0
    simp only [byKey]
    rw [← ih l h h0]
    have e := sorted_parts (n : Int) l h
    have e1 : l.filter (fun x => decide (key x < ((n + 1 : Nat) : Int))) = (l.filter (fun x => decide (key x < n)) ++ l.filter (fun x => decide ((n : Int) ≤ key x))).filter (fun x => decide (key x < ((n + 1 : Nat) : Int))) := by rw [← e]
    rw [e1, List.filter_append, List.filter_filter, List.filter_filter]
    congr 1
    · congr 1
      funext x
      rw [Bool.eq_iff_iff, Bool.and_eq_true, decide_eq_true_eq, decide_eq_true_eq]
      omega
    · congr 1
      funext x
      rw [Bool.eq_iff_iff, Bool.and_eq_true, decide_eq_true_eq, decide_eq_true_eq, decide_eq_true_eq]
      omega
/-- a stable sort is one and the same -/
theorem stable_one {l l' : List α} (h : Sorted_ key l') (ha : Alike key l l') (n : Nat) (h0 : ∀ x ∈ l, 0 ≤ key x ∧ key x < n) : l' = byKey key l n := by
  rw [← byKey_alike ha, ← byKey_sorted n l' h (fun x hx => (h0 x ((ha.mem x).1 hx)).1)]
  exact (List.filter_eq_self.2 (fun x hx => by have := (h0 x ((ha.mem x).1 hx)).2; simpa using this)).symm
end
end Go.Proofs.Ytcjjmfpkhhdmlaa.G

namespace Go.Proofs.Ytcjjmfpkhhdmlaa.G
open Go.RowKit Go.Proofs.YtcjjmfpkhhdmlaaW.PrintWords Go.Proofs.YtcjjmfpkhhdmlaaW.PrintLast Go.Proofs.YtcjjmfpkhhdmlaaW.PrintMore
attribute [local go_sem] max2_int min2_int max_two min_two max_three min_three max_four min_four   -- for this text's walks alone
/-! ### cmp_isNaN_int: function 162 -/
def cmp_isNaN_int.f (a0 : Int) : Option (Bool) := some (a0 != a0)
set_option maxHeartbeats 8000000 in
set_option maxRecDepth 100000 in
theorem cmp_isNaN_int.calls (a0 : Int) (r : Bool) (w : World) (h : cmp_isNaN_int.f a0 = some r) :
    Calls Try.prog 162 #[.int .i64 a0] w fun e w' => e = .returned (.bool r) ∧ Drawn0 w w' := by
  have H : (some (a0 != a0)) = some r := h
  clear h
  obtain rfl := Option.some.inj H
  go_enter Try.func162, Try.ntmps162
  go_wp2
  go_ret
  exact ⟨by first | rfl | (simp; done) | (simp [*]; done), by repeat (first | exact Drawn0.refl _ | apply Drawn0.step)⟩
end Go.Proofs.Ytcjjmfpkhhdmlaa.G

namespace Go.Proofs.Ytcjjmfpkhhdmlaa.G
open Go.RowKit Go.Proofs.YtcjjmfpkhhdmlaaW.PrintWords Go.Proofs.YtcjjmfpkhhdmlaaW.PrintLast Go.Proofs.YtcjjmfpkhhdmlaaW.PrintMore
attribute [local go_sem] max2_int min2_int max_two min_two max_three min_three max_four min_four   -- for this text's walks alone
/-! ### cmp_Compare_int: function 129 -/
def cmp_Compare_int.f (a0 : Int) (a1 : Int) : Option (Int) := (cmp_isNaN_int.f a0).bind fun t925 => ((cmp_isNaN_int.f a1).bind fun t926 => (if t925 = true then (if t926 = true then (some 0) else (some (-1))) else (if t926 = true then (some 1) else (if a0 < a1 then (some (-1)) else (if a0 > a1 then (some 1) else (some 0))))))
set_option maxHeartbeats 8000000 in
set_option maxRecDepth 100000 in
theorem cmp_Compare_int.calls (a0 : Int) (a1 : Int) (r : Int) (w : World) (h : cmp_Compare_int.f a0 a1 = some r) :
    Calls Try.prog 129 #[.int .i64 a0, .int .i64 a1] w fun e w' => e = .returned (.int .i64 r) ∧ Drawn0 w w' := by
  have H : ((cmp_isNaN_int.f a0).bind fun t925 => ((cmp_isNaN_int.f a1).bind fun t926 => (if t925 = true then (if t926 = true then (some 0) else (some (-1))) else (if t926 = true then (some 1) else (if a0 < a1 then (some (-1)) else (if a0 > a1 then (some 1) else (some 0))))))) = some r := h
  clear h
  replace H := Option.bind_eq_some_iff.mp H
  obtain ⟨t925, A30, H⟩ := H
  replace H : ((cmp_isNaN_int.f a1).bind fun t926 => (if t925 = true then (if t926 = true then (some 0) else (some (-1))) else (if t926 = true then (some 1) else (if a0 < a1 then (some (-1)) else (if a0 > a1 then (some 1) else (some 0)))))) = some r := H
  have A3 := Aside0.mk A30
  clear A30
  replace H := Option.bind_eq_some_iff.mp H
  obtain ⟨t926, A40, H⟩ := H
  replace H : (if t925 = true then (if t926 = true then (some 0) else (some (-1))) else (if t926 = true then (some 1) else (if a0 < a1 then (some (-1)) else (if a0 > a1 then (some 1) else (some 0))))) = some r := H
  have A4 := Aside0.mk A40
  clear A40
  by_cases c5 : t925 = true
  · subst c5
    have H1 : (if t926 = true then (some 0) else (some (-1))) = some r := by rw [if_pos rfl] at H; exact H
    clear H
    have H := H1
    clear H1
    by_cases c6 : t926 = true
    · subst c6
      have H1 : (some 0) = some r := by rw [if_pos rfl] at H; exact H
      clear H
      have H := H1
      clear H1
      obtain rfl := Option.some.inj H
      go_enter Try.func129, Try.ntmps129
      go_wp2_with (first | ((with_reducible refine gate_callee (f := 162) rfl ?_); refine goesL_ (some 8) rfl rfl Try.func162 (by kernel_rfl) rfl #[.int .i64 a0] rfl (by (try simp only [List.map_toArray, List.map_cons, List.map_nil]); first | done | rfl | (simp only [List.length_drop, List.length_take]; rfl)) ?_; (with_reducible refine (cmp_isNaN_int.calls a0 true _ A3.out).mono ?_); rintro e w' ⟨rfl, ⟨nd, rfl⟩⟩; refine ⟨_, rfl, ?_⟩) | ((with_reducible refine gate_callee (f := 162) rfl ?_); refine goesL_ (some 10) rfl rfl Try.func162 (by kernel_rfl) rfl #[.int .i64 a1] rfl (by (try simp only [List.map_toArray, List.map_cons, List.map_nil]); first | done | rfl | (simp only [List.length_drop, List.length_take]; rfl)) ?_; (with_reducible refine (cmp_isNaN_int.calls a1 true _ A4.out).mono ?_); rintro e w' ⟨rfl, ⟨nd, rfl⟩⟩; refine ⟨_, rfl, ?_⟩))
      go_ret
      exact ⟨by first | rfl | (simp; done) | (simp [*]; done), by repeat (first | exact Drawn0.refl _ | apply Drawn0.step)⟩
    · replace c6 := Bool.eq_false_iff.mpr c6
      subst c6
      have H1 : (some (-1)) = some r := by rw [if_neg (show ¬ (false = true) by decide)] at H; exact H
      clear H
      have H := H1
      clear H1
      obtain rfl := Option.some.inj H
      go_enter Try.func129, Try.ntmps129
      go_wp2_with (first | ((with_reducible refine gate_callee (f := 162) rfl ?_); refine goesL_ (some 8) rfl rfl Try.func162 (by kernel_rfl) rfl #[.int .i64 a0] rfl (by (try simp only [List.map_toArray, List.map_cons, List.map_nil]); first | done | rfl | (simp only [List.length_drop, List.length_take]; rfl)) ?_; (with_reducible refine (cmp_isNaN_int.calls a0 true _ A3.out).mono ?_); rintro e w' ⟨rfl, ⟨nd, rfl⟩⟩; refine ⟨_, rfl, ?_⟩) | ((with_reducible refine gate_callee (f := 162) rfl ?_); refine goesL_ (some 10) rfl rfl Try.func162 (by kernel_rfl) rfl #[.int .i64 a1] rfl (by (try simp only [List.map_toArray, List.map_cons, List.map_nil]); first | done | rfl | (simp only [List.length_drop, List.length_take]; rfl)) ?_; (with_reducible refine (cmp_isNaN_int.calls a1 false _ A4.out).mono ?_); rintro e w' ⟨rfl, ⟨nd, rfl⟩⟩; refine ⟨_, rfl, ?_⟩))
      go_ret
      exact ⟨by first | rfl | (simp; done) | (simp [*]; done), by repeat (first | exact Drawn0.refl _ | apply Drawn0.step)⟩
  · replace c5 := Bool.eq_false_iff.mpr c5
    subst c5
    have H1 : (if t926 = true then (some 1) else (if a0 < a1 then (some (-1)) else (if a0 > a1 then (some 1) else (some 0)))) = some r := by rw [if_neg (show ¬ (false = true) by decide)] at H; exact H
    clear H
    have H := H1
    clear H1
    by_cases c7 : t926 = true
    · subst c7
      have H1 : (some 1) = some r := by rw [if_pos rfl] at H; exact H
      clear H
      have H := H1
      clear H1
      obtain rfl := Option.some.inj H
      go_enter Try.func129, Try.ntmps129
      go_wp2_with (first | ((with_reducible refine gate_callee (f := 162) rfl ?_); refine goesL_ (some 8) rfl rfl Try.func162 (by kernel_rfl) rfl #[.int .i64 a0] rfl (by (try simp only [List.map_toArray, List.map_cons, List.map_nil]); first | done | rfl | (simp only [List.length_drop, List.length_take]; rfl)) ?_; (with_reducible refine (cmp_isNaN_int.calls a0 false _ A3.out).mono ?_); rintro e w' ⟨rfl, ⟨nd, rfl⟩⟩; refine ⟨_, rfl, ?_⟩) | ((with_reducible refine gate_callee (f := 162) rfl ?_); refine goesL_ (some 10) rfl rfl Try.func162 (by kernel_rfl) rfl #[.int .i64 a1] rfl (by (try simp only [List.map_toArray, List.map_cons, List.map_nil]); first | done | rfl | (simp only [List.length_drop, List.length_take]; rfl)) ?_; (with_reducible refine (cmp_isNaN_int.calls a1 true _ A4.out).mono ?_); rintro e w' ⟨rfl, ⟨nd, rfl⟩⟩; refine ⟨_, rfl, ?_⟩))
      go_ret
      exact ⟨by first | rfl | (simp; done) | (simp [*]; done), by repeat (first | exact Drawn0.refl _ | apply Drawn0.step)⟩
    · replace c7 := Bool.eq_false_iff.mpr c7
      subst c7
      have H1 : (if a0 < a1 then (some (-1)) else (if a0 > a1 then (some 1) else (some 0))) = some r := by rw [if_neg (show ¬ (false = true) by decide)] at H; exact H
      clear H
      have H := H1
      clear H1
      by_cases c8 : a0 < a1
      · rw [if_pos c8] at H
        have c8b0 : decide (a0 < a1) = true := decide_eq_true c8
        clear c8
        obtain rfl := Option.some.inj H
        go_enter Try.func129, Try.ntmps129
        go_wp2_with (first | ((with_reducible refine gate_callee (f := 162) rfl ?_); refine goesL_ (some 8) rfl rfl Try.func162 (by kernel_rfl) rfl #[.int .i64 a0] rfl (by (try simp only [List.map_toArray, List.map_cons, List.map_nil]); first | done | rfl | (simp only [List.length_drop, List.length_take]; rfl)) ?_; (with_reducible refine (cmp_isNaN_int.calls a0 false _ A3.out).mono ?_); rintro e w' ⟨rfl, ⟨nd, rfl⟩⟩; refine ⟨_, rfl, ?_⟩) | ((with_reducible refine gate_callee (f := 162) rfl ?_); refine goesL_ (some 10) rfl rfl Try.func162 (by kernel_rfl) rfl #[.int .i64 a1] rfl (by (try simp only [List.map_toArray, List.map_cons, List.map_nil]); first | done | rfl | (simp only [List.length_drop, List.length_take]; rfl)) ?_; (with_reducible refine (cmp_isNaN_int.calls a1 false _ A4.out).mono ?_); rintro e w' ⟨rfl, ⟨nd, rfl⟩⟩; refine ⟨_, rfl, ?_⟩))
        go_ret
        exact ⟨by first | rfl | (simp; done) | (simp [*]; done), by repeat (first | exact Drawn0.refl _ | apply Drawn0.step)⟩
      · rw [if_neg c8] at H
        have c8b0 : decide (a0 < a1) = false := decide_eq_false c8
        clear c8
        by_cases c9 : a0 > a1
        · rw [if_pos c9] at H
          have c9b0 : decide (a1 < a0) = true := decide_eq_true c9
          clear c9
          obtain rfl := Option.some.inj H
          go_enter Try.func129, Try.ntmps129
          go_wp2_with (first | ((with_reducible refine gate_callee (f := 162) rfl ?_); refine goesL_ (some 8) rfl rfl Try.func162 (by kernel_rfl) rfl #[.int .i64 a0] rfl (by (try simp only [List.map_toArray, List.map_cons, List.map_nil]); first | done | rfl | (simp only [List.length_drop, List.length_take]; rfl)) ?_; (with_reducible refine (cmp_isNaN_int.calls a0 false _ A3.out).mono ?_); rintro e w' ⟨rfl, ⟨nd, rfl⟩⟩; refine ⟨_, rfl, ?_⟩) | ((with_reducible refine gate_callee (f := 162) rfl ?_); refine goesL_ (some 10) rfl rfl Try.func162 (by kernel_rfl) rfl #[.int .i64 a1] rfl (by (try simp only [List.map_toArray, List.map_cons, List.map_nil]); first | done | rfl | (simp only [List.length_drop, List.length_take]; rfl)) ?_; (with_reducible refine (cmp_isNaN_int.calls a1 false _ A4.out).mono ?_); rintro e w' ⟨rfl, ⟨nd, rfl⟩⟩; refine ⟨_, rfl, ?_⟩))
          go_ret
          exact ⟨by first | rfl | (simp; done) | (simp [*]; done), by repeat (first | exact Drawn0.refl _ | apply Drawn0.step)⟩
        · rw [if_neg c9] at H
          have c9b0 : decide (a1 < a0) = false := decide_eq_false c9
          clear c9
          obtain rfl := Option.some.inj H
          go_enter Try.func129, Try.ntmps129
          go_wp2_with (first | ((with_reducible refine gate_callee (f := 162) rfl ?_); refine goesL_ (some 8) rfl rfl Try.func162 (by kernel_rfl) rfl #[.int .i64 a0] rfl (by (try simp only [List.map_toArray, List.map_cons, List.map_nil]); first | done | rfl | (simp only [List.length_drop, List.length_take]; rfl)) ?_; (with_reducible refine (cmp_isNaN_int.calls a0 false _ A3.out).mono ?_); rintro e w' ⟨rfl, ⟨nd, rfl⟩⟩; refine ⟨_, rfl, ?_⟩) | ((with_reducible refine gate_callee (f := 162) rfl ?_); refine goesL_ (some 10) rfl rfl Try.func162 (by kernel_rfl) rfl #[.int .i64 a1] rfl (by (try simp only [List.map_toArray, List.map_cons, List.map_nil]); first | done | rfl | (simp only [List.length_drop, List.length_take]; rfl)) ?_; (with_reducible refine (cmp_isNaN_int.calls a1 false _ A4.out).mono ?_); rintro e w' ⟨rfl, ⟨nd, rfl⟩⟩; refine ⟨_, rfl, ?_⟩))
          go_ret
          exact ⟨by first | rfl | (simp; done) | (simp [*]; done), by repeat (first | exact Drawn0.refl _ | apply Drawn0.step)⟩
end Go.Proofs.Ytcjjmfpkhhdmlaa.G

namespace Go.Proofs.Ytcjjmfpkhhdmlaa.G
open Go.RowKit Go.Proofs.YtcjjmfpkhhdmlaaW.PrintWords Go.Proofs.YtcjjmfpkhhdmlaaW.PrintLast Go.Proofs.YtcjjmfpkhhdmlaaW.PrintMore
attribute [local go_sem] max2_int min2_int max_two min_two max_three min_three max_four min_four   -- for this text's walks alone
/-! slices.SortStableFunc of rows of numbers, walked: the row's cells change places, nothing else -/
--import Derived.BigRegion
--import Derived.BigQuiet
--import Derived.Deep.QuietTactic
/-- the block of a row's cells, each a row's head -/
structure Blk (W : World) (g : Nat) (pre post : List Value) (xs : List (Value × List Int)) : Prop where
  blk : W.heap[g]? = some (.cells (pre ++ (xs.map Prod.fst ++ post)).toArray 22 (0, 0))
  form : ∀ p ∈ xs, ∃ A n c, p.1 = .slice A n c
/-- nothing but block g's cells has changed -/
structure Sw (W W' : World) (g : Nat) : Prop where
  os : W'.os = W.os
  tape : W'.tape = W.tape
  output : W'.output = W.output
  size : W'.heap.size = W.heap.size
  block : ∀ k, k ≠ g → W'.heap[k]? = W.heap[k]?
theorem Sw.refl (W : World) (g : Nat) : Sw W W g := ⟨rfl, rfl, rfl, rfl, fun _ _ => rfl⟩
theorem Sw.trans {a b c : World} {g : Nat} (h : Sw a b g) (k : Sw b c g) : Sw a c g := ⟨k.os.trans h.os, k.tape.trans h.tape, k.output.trans h.output, k.size.trans h.size, fun i hi => (k.block i hi).trans (h.block i hi)⟩
theorem Sw.set {a b : World} {g : Nat} (h : Sw a b g) (i : Nat) (v : Value) : Sw a (b.setCell ⟨g, i, none⟩ v) g :=
  ⟨by simpa [World.setCell] using h.os, by simpa [World.setCell] using h.tape, by simpa [World.setCell] using h.output, by simpa [World.setCell] using h.size, fun k hk => (Below.heap_setCell b ⟨g, i, none⟩ v k hk).trans (h.block k hk)⟩
theorem Sw.drewN {a b : World} {g : Nat} (h : Sw a b g) (n : Nat) : Sw a (b.drewN n) g := ⟨h.os, h.tape, h.output, h.size, h.block⟩
theorem Sw.below {B : Nat} {w0 a b : World} {g : Nat} (h : Sw a b g) (hb : Below B w0 a) (hg : B ≤ g) : Below B w0 b :=
  ⟨h.os.trans hb.os, h.tape.trans hb.tape, h.output.trans hb.output, by rw [h.size]; exact hb.size, fun k hk => (h.block k (by omega)).trans (hb.block k hk)⟩
theorem Sw.keep {a b : World} {g : Nat} (h : Sw a b g) : KeepBut a b g none := ⟨by rw [h.size]; exact Nat.le_refl _, fun i _ hi _ => h.block i hi⟩
section
variable {W : World} {g : Nat} {pre post : List Value} {xs : List (Value × List Int)}
theorem Blk.cell (h : Blk W g pre post xs) {i : Nat} {p : Value × List Int} (hp : xs[i]? = some p) : W.cell? ⟨g, pre.length + i, none⟩ = some p.1 ∧ W.frozen? ⟨g, pre.length + i, none⟩ = false := by
  refine ⟨(blk_cell h.blk _).trans ?_, blk_frozen h.blk _⟩
  have hi := (List.getElem?_eq_some_iff.1 hp).1
  rw [List.getElem?_toArray, List.getElem?_append_right (by omega), Nat.add_sub_cancel_left, List.getElem?_append_left (by simpa using hi), List.getElem?_map, hp]
  rfl
theorem Blk.put (h : Blk W g pre post xs) {i : Nat} (hi : i < xs.length) (p : Value × List Int) (hf : ∃ A n c, p.1 = .slice A n c) : Blk (W.setCell ⟨g, pre.length + i, none⟩ p.1) g pre post (xs.set i p) := by
  refine ⟨?_, fun q hq => ?_⟩
  · rw [blk_set h.blk]
    congr 2
    rw [List.setIfInBounds_toArray, List.set_append_right _ _ (by omega), Nat.add_sub_cancel_left, List.set_append_left _ _ (by simpa using hi), List.map_set]
  · rcases List.mem_or_eq_of_mem_set hq with hq | rfl
    · exact h.form q hq
    · exact hf
theorem Blk.drewN (h : Blk W g pre post xs) (n : Nat) : Blk (W.drewN n) g pre post xs := ⟨h.blk, h.form⟩
theorem Blk.swp_ (h : Blk W g pre post xs) {i j : Nat} {p q : Value × List Int} (hi : xs[i]? = some p) (hj : xs[j]? = some q) :
    Blk ((W.setCell ⟨g, pre.length + i, none⟩ q.1).setCell ⟨g, pre.length + j, none⟩ p.1) g pre post (swp xs i j) := by
  have h1 := (List.getElem?_eq_some_iff.1 hi).1
  have h2 := (List.getElem?_eq_some_iff.1 hj).1
  have := (h.put h1 q (h.form q (List.mem_of_getElem? hj))).put (i := j) (by rw [List.length_set]; exact h2) p (h.form p (List.mem_of_getElem? hi))
  unfold swp
  rw [hi, hj]
  exact this
theorem Blk.swp_' (h : Blk W g pre post xs) {i j : Nat} (hne : i ≠ j) {p q : Value × List Int} (hi : xs[i]? = some p) (hj : xs[j]? = some q) :
    Blk ((W.setCell ⟨g, pre.length + j, none⟩ p.1).setCell ⟨g, pre.length + i, none⟩ q.1) g pre post (swp xs i j) := by
  have h1 := (List.getElem?_eq_some_iff.1 hi).1
  have h2 := (List.getElem?_eq_some_iff.1 hj).1
  have := (h.put h2 p (h.form p (List.mem_of_getElem? hi))).put (i := i) (by rw [List.length_set]; exact h1) q (h.form q (List.mem_of_getElem? hj))
  unfold swp
  rw [hi, hj]
  simp only []
  rw [List.set_comm _ _ hne]
  exact this
end
theorem getElem?_of_lt {α : Type} {l : List α} {i : Nat} (h : i < l.length) : ∃ p, l[i]? = some p := ⟨l[i], List.getElem?_eq_getElem h⟩
set_option maxRecDepth 100000 in
set_option maxHeartbeats 4000000 in
theorem swapR_calls (W : World) (g : Nat) (pre post : List Value) (xs : List (Value × List Int)) (a b n c : Nat) (fv : Value) (h : Blk W g pre post xs) (hc : xs.length ≤ c) (hl : xs.length ≤ 1000000) (ha : a + n ≤ xs.length) (hb : b + n ≤ xs.length) (hab : a ≠ b) (hcm : c ≤ 9223372036854775807) :
    Calls Try.prog 178 #[.slice (some ⟨g, pre.length, none⟩) xs.length c, .int .i64 a, .int .i64 b, .int .i64 n, fv] W fun e W' => e = .returned (.tuple #[]) ∧ Sw W W' g ∧ Blk W' g pre post (swpR xs a b n) := by
  have HH := Aside0.mk h
  clear h
  obtain ⟨off, hoff⟩ : ∃ off, off = pre.length := ⟨_, rfl⟩
  have HOFF := Aside0.mk hoff
  rw [← hoff]
  clear hoff
  obtain ⟨len, hlen⟩ : ∃ len, len = xs.length := ⟨_, rfl⟩
  have HLEN := Aside0.mk hlen
  rw [← hlen] at hc hl ha hb ⊢
  clear hlen
  go_enter Try.func178, Try.ntmps178
  go_wp2
  go_loopw [10] (fun v10 w' => ∃ k : Nat, v10 = .int .i64 k ∧ k ≤ n ∧ Aside0 (Sw W w' g) ∧ Aside0 (Blk w' g pre post (swpR xs a b k))) (fun v10 w' => n - (intOf v10).toNat)
  case atStart => exact ⟨0, rfl, by omega, ⟨Sw.refl _ _⟩, HH⟩
  case round =>
    obtain ⟨k, rfl, hk, HS, HB⟩ := hrel
    by_cases hlt : k < n
    · have hls := swpR_length xs a b k
      obtain ⟨p, hp⟩ := getElem?_of_lt (l := swpR xs a b k) (i := a + k) (by rw [hls, ← HLEN.out]; omega)
      obtain ⟨q, hq⟩ := getElem?_of_lt (l := swpR xs a b k) (i := b + k) (by rw [hls, ← HLEN.out]; omega)
      obtain ⟨Ap, np, cp, ep⟩ := HB.out.form p (List.mem_of_getElem? hp)
      obtain ⟨Aq, nq, cq, eq⟩ := HB.out.form q (List.mem_of_getElem? hq)
      obtain ⟨hx, hxf⟩ := HB.out.cell hp
      obtain ⟨hy, hyf⟩ := HB.out.cell hq
      have hne : a + k ≠ b + k := by omega
      have HN := Aside0.mk (HB.out.swp_ hp hq)
      have HN' := Aside0.mk (HB.out.swp_' hne hp hq)
      have HS1 := Aside0.mk ((HS.out.set (pre.length + (a + k)) q.1).set (pre.length + (b + k)) p.1)
      have HS2 := Aside0.mk ((HS.out.set (pre.length + (b + k)) p.1).set (pre.length + (a + k)) q.1)
      rw [← HOFF.out] at hx hxf hy hyf HN HN' HS1 HS2
      rw [ep] at hx HN HN' HS1 HS2
      rw [eq] at hy HN HN' HS1 HS2
      clear hls hp hq HB HS ep eq
      go_wp2
      go_region
      all_goals
        go_wp2
        go_roundw
        case rel =>
          first
          | exact ⟨k + 1, by go_num, by omega, ⟨HS1.out.drewN 1⟩, ⟨HN.out.drewN 1⟩⟩
          | exact ⟨k + 1, by go_num, by omega, ⟨HS2.out.drewN 1⟩, ⟨HN'.out.drewN 1⟩⟩
        case measure => simp [intOf]; omega
    · obtain rfl : k = n := by omega
      go_wp2
      go_end0
      exact ⟨rfl, HS.out, HB.out⟩
/-! #### the comparison -/
def cmpI (a b : Int) : Int := if a < b then -1 else if a > b then 1 else 0
theorem cmpI_lt {a b : Int} (h : a < b) : cmpI a b < 0 := by unfold cmpI; rw [if_pos h]; decide
theorem cmpI_ge {a b : Int} (h : ¬ a < b) : ¬ cmpI a b < 0 := by unfold cmpI; rw [if_neg h]; split <;> decide
theorem compare_val (a b : Int) : cmp_Compare_int.f a b = some (cmpI a b) := by
  have h : ∀ x : Int, cmp_isNaN_int.f x = some false := fun x => by unfold cmp_isNaN_int.f; simp
  unfold cmp_Compare_int.f cmpI
  rw [h, h]
  simp only [Option.bind_some, Bool.false_eq_true, if_false]
  split
  · rfl
  · split <;> rfl
/-- what a sort of rows by number q stands in -/
structure SortEnv (W : World) (g gn : Nat) (q : Int) (xs : List (Value × List Int)) : Prop where
  q0 : 0 ≤ q
  q1 : q ≤ 2
  ne : gn ≠ g
  num : W.heap[gn]? = some (.cells #[.int .i64 q] 3 (0, 0))
  px : ∀ p ∈ xs, isPx p.2 = true
  row : ∀ p ∈ xs, Kd.FK (Kd.slice 3 (Kd.int .i64)) W (fun k => k ≠ g) p.2 [p.1]
theorem SortEnv.step {W W' : World} {g gn : Nat} {q : Int} {xs ys : List (Value × List Int)} (h : SortEnv W g gn q xs) (hs : Sw W W' g) (hm : ∀ p ∈ ys, p ∈ xs) : SortEnv W' g gn q ys :=
  ⟨h.q0, h.q1, h.ne, (hs.block gn h.ne).trans h.num, fun p hp => h.px p (hm p hp), fun p hp => Kd.FK_step (h.row p (hm p hp)) (fun k hk _ => hs.block k hk)⟩
theorem SortEnv.open_ {W : World} {g gn : Nat} {q : Int} {xs : List (Value × List Int)} (h : SortEnv W g gn q xs) {p : Value × List Int} (hp : p ∈ xs) : ∃ ad c, p.1 = .slice (some ad) 3 c ∧ 3 ≤ c ∧ W.cell? (ad.add q.toNat) = some (.int .i64 (rd p.2 q)) := by
  obtain ⟨A, c, e, hl, hC⟩ := Kd.FK_now (h.row p hp)
  have h3 := (px_rd (h.px p hp) 0 (by omega) (by omega)).2.2
  have h0 := h.q0
  have h1 := h.q1
  obtain ⟨ad, rfl, hx⟩ := Kd.at_int hC q h0 (by omega)
  rw [h3] at e hl
  refine ⟨ad, c, by simpa using e, hl, ?_⟩
  exact hx
set_option maxRecDepth 100000 in
set_option maxHeartbeats 4000000 in
theorem cmp_calls (W : World) (g gn : Nat) (q : Int) (xs : List (Value × List Int)) (h : SortEnv W g gn q xs) (p p' : Value × List Int) (hp : p ∈ xs) (hp' : p' ∈ xs) :
    Calls Try.prog 128 #[p.1, p'.1, .pointer (some ⟨gn, 0, none⟩)] W fun e w' => e = .returned (.int .i64 (cmpI (rd p.2 q) (rd p'.2 q))) ∧ ∃ n, w' = W.drewN n := by
  obtain ⟨ad, c, e1, hc, hx⟩ := h.open_ hp
  obtain ⟨ad', c', e2, hc', hx'⟩ := h.open_ hp'
  have hn := blk_cell h.num 0
  have h0 := h.q0
  have h1 := h.q1
  have h3 : q < 3 := by omega
  simp at hn
  rw [e1, e2]
  obtain ⟨x, hxx⟩ : ∃ x, x = rd p.2 q := ⟨_, rfl⟩
  obtain ⟨y, hyy⟩ : ∃ y, y = rd p'.2 q := ⟨_, rfl⟩
  rw [← hxx] at hx ⊢
  rw [← hyy] at hx' ⊢
  obtain ⟨r, hr⟩ : ∃ r, r = cmpI x y := ⟨_, rfl⟩
  have HV : Aside0 (∀ W' : World, Calls Try.prog 129 #[.int .i64 x, .int .i64 y] W' fun e w' => e = .returned (.int .i64 r) ∧ ∃ m, w' = W'.drewN m) :=
    ⟨fun W' => (cmp_Compare_int.calls x y r W' (by rw [hr]; exact compare_val x y)).mono fun e w' h => ⟨h.1, h.2.out⟩⟩
  rw [← hr]
  clear hxx hyy e1 e2 h hr hp hp'
  go_enter Try.func128, Try.ntmps128
  go_wp2
  go_quiet ((go_at_call 129; exact Calls.quiet_of (HV.out _)))
  go_wp2
  go_ret
  exact ⟨rfl, _, rfl⟩
/-! #### rotation -/
set_option maxRecDepth 100000 in
set_option maxHeartbeats 4000000 in
theorem rotate_calls (W : World) (g : Nat) (pre post : List Value) (P A B R : List (Value × List Int)) (a m b c len : Nat) (fv : Value) (h : Blk W g pre post (P ++ (A ++ (B ++ R)))) (hlen : len = (P ++ (A ++ (B ++ R))).length) (hc : len ≤ c) (hl : len ≤ 1000000) (hcm : c ≤ 9223372036854775807)
    (ha : P.length = a) (hm : a + A.length = m) (hb : m + B.length = b) (hA : 1 ≤ A.length) (hB : 1 ≤ B.length) :
    Calls Try.prog 177 #[.slice (some ⟨g, pre.length, none⟩) len c, .int .i64 a, .int .i64 m, .int .i64 b, fv] W fun e W' => e = .returned (.tuple #[]) ∧ Sw W W' g ∧ Blk W' g pre post (P ++ (B ++ (A ++ R))) := by
  have HH := Aside0.mk h
  have HLEN := Aside0.mk hlen
  have hml : m ≤ len := by rw [hlen]; simp only [List.length_append]; omega
  have hbl : b ≤ len := by rw [hlen]; simp only [List.length_append]; omega
  have hma : a ≤ m := by omega
  have hbm : m ≤ b := by omega
  obtain ⟨i0, hi0⟩ : ∃ i0, i0 = A.length := ⟨_, rfl⟩
  obtain ⟨j0, hj0⟩ : ∃ j0, j0 = B.length := ⟨_, rfl⟩
  have e1 : (m : Int) - a = i0 := by omega
  have e2 : (b : Int) - m = j0 := by omega
  have HE1 := Aside0.mk e1
  have HE2 := Aside0.mk e2
  have HI0 := Aside0.mk hi0
  have HJ0 := Aside0.mk hj0
  have HA := Aside0.mk ha
  have HM := Aside0.mk hm
  have HB := Aside0.mk hb
  have hi1 : 1 ≤ i0 := by omega
  have hj1 : 1 ≤ j0 := by omega
  have him : i0 ≤ m := by omega
  have hjm : m + j0 ≤ len := by omega
  clear h hlen ha hm hb hA hB hi0 hj0 e1 e2
  go_enter Try.func177, Try.ntmps177
  go_wp2
  rw [HE1.out, HE2.out]
  go_loopw [10, 11] (fun v10 v11 w' => ∃ (i j : Nat) (P' A' B' R' : List (Value × List Int)), v10 = .int .i64 i ∧ v11 = .int .i64 j ∧ 1 ≤ i ∧ 1 ≤ j ∧ i ≤ m ∧ m + j ≤ len ∧ Aside0 (P'.length + i = m ∧ A'.length = i ∧ B'.length = j) ∧ Aside0 (Blk w' g pre post (P' ++ (A' ++ (B' ++ R'))) ∧ len = (P' ++ (A' ++ (B' ++ R'))).length) ∧ Aside0 (P' ++ (B' ++ (A' ++ R')) = P ++ (B ++ (A ++ R))) ∧ Aside0 (Sw W w' g)) (fun v10 v11 w' => (intOf v10).toNat + (intOf v11).toNat)
  case atStart => exact ⟨i0, j0, P, A, B, R, rfl, rfl, hi1, hj1, him, hjm, ⟨by have := HA.out; have := HM.out; have := HI0.out; omega, HI0.out.symm, HJ0.out.symm⟩, ⟨HH.out, HLEN.out⟩, ⟨rfl⟩, ⟨Sw.refl _ _⟩⟩
  case round =>
    obtain ⟨i, j, P', A', B', R', rfl, rfl, hi, hj, him', hjm', HL, HBK, HEQ, HS⟩ := hrel
    have hP : P'.length ≤ m := by have := HL.out; omega
    have v1 : Aside0 ((m : Int) - i = (P'.length : Nat)) := ⟨by have := HL.out.1; omega⟩
    rcases Nat.lt_trichotomy i j with hij | hij | hij
    · obtain ⟨B1, B2, hBB⟩ : ∃ B1 B2, B' = B1 ++ B2 ∧ B1.length = j - i ∧ B2.length = i := ⟨B'.take (j - i), B'.drop (j - i), (List.take_append_drop _ _).symm, by rw [List.length_take]; have := HL.out; omega, by rw [List.length_drop]; have := HL.out; omega⟩
      obtain ⟨rfl, hb1, hb2⟩ := hBB
      have hres := swpR_mid i P' A' B1 B2 R' P'.length (m + j - i) HL.out.2.1 hb2 rfl (by have := HL.out; omega)
      have HB12 := Aside0.mk (And.intro hb1 hb2)
      have hne : P'.length ≠ m + j - i := by have := HL.out; omega
      have hc1 := swapR_calls wr g pre post (P' ++ (A' ++ (B1 ++ B2 ++ R'))) P'.length (m + j - i) i c fv HBK.out.1 (by rw [← HBK.out.2]; exact hc) (by rw [← HBK.out.2]; exact hl) (by rw [← HBK.out.2]; omega) (by rw [← HBK.out.2]; omega) hne hcm
      rw [← HBK.out.2] at hc1
      rw [List.append_assoc B1, hres] at hc1
      have HC := Aside0.mk hc1
      have v2 : Aside0 ((m : Int) + j - i = ((m + j - i : Nat) : Int)) := ⟨by omega⟩
      have v3 : Aside0 ((j : Int) - i = ((j - i : Nat) : Int)) := ⟨by omega⟩
      clear hres hb1 hb2 hne hc1
      have z1 : ¬ (i : Int) = j := by omega
      go_wp2_with fail
      rw [v1.out, v2.out]
      refine HC.out.mono ?_
      rintro e_ w1 ⟨rfl, hs1, hbk1⟩
      have HS1 := Aside0.mk (HS.out.trans hs1)
      have HBK1 := Aside0.mk hbk1
      clear hs1 hbk1
      go_wp2
      rw [v3.out]
      go_roundw
      case rel =>
        refine ⟨i, j - i, P', B2, B1, A' ++ R', rfl, rfl, hi, by omega, him', by omega, ⟨HL.out.1, HB12.out.2, HB12.out.1⟩, ⟨HBK1.out, ?_⟩, ⟨?_⟩, HS1⟩
        · rw [HBK.out.2]; simp only [List.length_append]; omega
        · rw [← HEQ.out, List.append_assoc]
      case measure => simp [intOf]; omega
    · subst hij
      have hres := swpR_mid i P' A' [] B' R' P'.length m HL.out.2.1 HL.out.2.2 rfl (by have := HL.out; simp; omega)
      rw [List.nil_append, List.nil_append] at hres
      have hne : P'.length ≠ m := by have := HL.out; omega
      have hc1 := swapR_calls wr g pre post (P' ++ (A' ++ (B' ++ R'))) P'.length m i c fv HBK.out.1 (by rw [← HBK.out.2]; exact hc) (by rw [← HBK.out.2]; exact hl) (by rw [← HBK.out.2]; omega) (by rw [← HBK.out.2]; omega) hne hcm
      rw [← HBK.out.2, hres, HEQ.out] at hc1
      have HC := Aside0.mk hc1
      clear hres hne hc1
      go_wp2_with fail
      rw [v1.out]
      refine HC.out.mono ?_
      rintro e_ w1 ⟨rfl, hs1, hbk1⟩
      have HS1 := Aside0.mk (HS.out.trans hs1)
      have HBK1 := Aside0.mk hbk1
      clear hs1 hbk1
      go_wp2
      go_end0
      exact ⟨rfl, HS1.out, HBK1.out⟩
    · obtain ⟨A1, A2, hAA⟩ : ∃ A1 A2, A' = A1 ++ A2 ∧ A1.length = j ∧ A2.length = i - j := ⟨A'.take j, A'.drop j, (List.take_append_drop _ _).symm, by rw [List.length_take]; have := HL.out; omega, by rw [List.length_drop]; have := HL.out; omega⟩
      obtain ⟨rfl, hb1, hb2⟩ := hAA
      have hres := swpR_mid j P' A1 A2 B' R' P'.length m hb1 HL.out.2.2 rfl (by have := HL.out; omega)
      have HB12 := Aside0.mk (And.intro hb1 hb2)
      have hne : P'.length ≠ m := by have := HL.out; omega
      have hc1 := swapR_calls wr g pre post (P' ++ (A1 ++ A2 ++ (B' ++ R'))) P'.length m j c fv HBK.out.1 (by rw [← HBK.out.2]; exact hc) (by rw [← HBK.out.2]; exact hl) (by rw [← HBK.out.2]; have := HL.out; omega) (by rw [← HBK.out.2]; omega) hne hcm
      rw [← HBK.out.2] at hc1
      rw [List.append_assoc A1, hres] at hc1
      have HC := Aside0.mk hc1
      have v3 : Aside0 ((i : Int) - j = ((i - j : Nat) : Int)) := ⟨by omega⟩
      clear hres hb1 hb2 hne hc1
      have z1 : ¬ (i : Int) = j := by omega
      go_wp2_with fail
      rw [v1.out]
      refine HC.out.mono ?_
      rintro e_ w1 ⟨rfl, hs1, hbk1⟩
      have HS1 := Aside0.mk (HS.out.trans hs1)
      have HBK1 := Aside0.mk hbk1
      clear hs1 hbk1
      go_wp2
      rw [v3.out]
      go_roundw
      case rel =>
        refine ⟨i - j, j, P' ++ B', A2, A1, R', rfl, rfl, by omega, hj, by omega, hjm', ⟨by rw [List.length_append]; have := HL.out; omega, HB12.out.2, HB12.out.1⟩, ⟨by rw [List.append_assoc]; exact HBK1.out, ?_⟩, ⟨?_⟩, HS1⟩
        · rw [HBK.out.2]; simp only [List.length_append]; omega
        · rw [← HEQ.out, List.append_assoc, List.append_assoc]
      case measure => simp [intOf]; omega
/-! #### insertion -/
theorem mem_of_alike {key : Value × List Int → Int} {l l' : List (Value × List Int)} (h : Alike key l l') : ∀ p ∈ l', p ∈ l := fun p hp => (h.mem p).1 hp
theorem OutI.mem {α : Type} {key : α → Int} {l ys : List α} {a i : Nat} (h : OutI key l a i ys) : ∀ p ∈ ys, p ∈ l := by
  obtain ⟨m, rfl, _, h2⟩ := h
  intro p hp
  rcases List.mem_append.1 hp with hp | hp
  · rcases List.mem_append.1 hp with hp | hp
    · exact List.mem_of_mem_take hp
    · exact List.mem_of_mem_drop (List.mem_of_mem_take ((h2.mem p).1 hp))
  · exact List.mem_of_mem_drop hp
theorem InsI.mem {α : Type} {key : α → Int} {l ys : List α} {a i j : Nat} (h : InsI key l a i ys j) : ∀ p ∈ ys, p ∈ l := by
  obtain ⟨u, x, v, rfl, _, _, _, _, h5⟩ := h
  intro p hp
  rcases List.mem_append.1 hp with hp | hp
  · rcases List.mem_append.1 hp with hp | hp
    · exact List.mem_of_mem_take hp
    · exact List.mem_of_mem_drop (List.mem_of_mem_take ((h5.mem p).1 hp))
  · exact List.mem_of_mem_drop hp
def keyQ (q : Int) (p : Value × List Int) : Int := rd p.2 q
set_option maxRecDepth 100000 in
set_option maxHeartbeats 4000000 in
theorem insertion_calls (W : World) (g gn : Nat) (q : Int) (pre post : List Value) (xs : List (Value × List Int)) (a b c len : Nat) (hE : SortEnv W g gn q xs) (h : Blk W g pre post xs) (hlen : len = xs.length) (hc : len ≤ c) (hl : len ≤ 1000000) (hcm : c ≤ 9223372036854775807) (ha : a ≤ b) (hb : b ≤ len) :
    Calls Try.prog 175 #[.slice (some ⟨g, pre.length, none⟩) len c, .int .i64 a, .int .i64 b, .func (.func 128) #[] #[.pointer (some ⟨gn, 0, none⟩)]] W fun e W' => e = .returned (.tuple #[]) ∧ Sw W W' g ∧ ∃ ys, Blk W' g pre post ys ∧ SegS (keyQ q) xs a b ys := by
  have HE := Aside0.mk hE
  have HH := Aside0.mk h
  have HLEN := Aside0.mk hlen
  clear hE h hlen
  rcases Nat.eq_or_lt_of_le ha with rfl | hab
  · go_enter Try.func175, Try.ntmps175
    go_wp2
    refine wp_loop_rounds 1 ?_
    rw [rounds_succ]
    go_wp2
    go_end0
    exact ⟨rfl, Sw.refl _ _, xs, HH.out, OutI.none xs a⟩
  have hax : a < xs.length := by rw [← HLEN.out]; omega
  have HO := Aside0.mk (OutI.start (key := keyQ q) xs a hax)
  clear hax
  go_enter Try.func175, Try.ntmps175
  go_wp2
  go_loopw [8] (fun v8 w' => ∃ (i : Nat) (ys : List (Value × List Int)), v8 = .int .i64 i ∧ a < i ∧ i ≤ b ∧ Aside0 (OutI (keyQ q) xs a i ys) ∧ Aside0 (Blk w' g pre post ys) ∧ Aside0 (Sw W w' g)) (fun v8 w' => b - (intOf v8).toNat)
  case atStart => exact ⟨a + 1, xs, by go_num, by omega, by omega, HO, HH, ⟨Sw.refl _ _⟩⟩
  case round =>
    clear HO
    obtain ⟨i, ys, rfl, hi, hib, HO, HB, HS⟩ := hrel
    by_cases hlt : i < b
    · have hix : i < xs.length := by rw [← HLEN.out]; omega
      have HI := Aside0.mk (InsI.start HO.out (by omega) hix)
      clear hix
      go_wp2
      go_loopw [9] (fun v9 w' => ∃ (j : Nat) (ys : List (Value × List Int)), v9 = .int .i64 j ∧ a ≤ j ∧ j ≤ i ∧ Aside0 (InsI (keyQ q) xs a i ys j) ∧ Aside0 (Blk w' g pre post ys) ∧ Aside0 (Sw W w' g)) (fun v9 w' => (intOf v9).toNat)
      case atStart => exact ⟨i, ys, rfl, by omega, by omega, HI, HB, HS⟩
      case round =>
        clear HO HI HB HS
        obtain ⟨j, ys, rfl, hj, hji, HI, HB, HS⟩ := hrel
        by_cases hja : a < j
        · have hxl : a ≤ xs.length := by rw [← HLEN.out]; omega
          have hil : i < xs.length := by rw [← HLEN.out]; omega
          have hyl := HI.out.length (by omega) hil
          obtain ⟨P, y, x, R, eys, hP, hstep, hstop⟩ := HI.out.at hja hxl
          have hx1 : ys[j]? = some x := by rw [eys, List.getElem?_append_right (by omega), show j - P.length = 1 by omega]; rfl
          have hy1 : ys[j - 1]? = some y := by rw [eys, List.getElem?_append_right (by omega), show j - 1 - P.length = 0 by omega]; rfl
          have hEn := (HE.out.step HS.out HI.out.mem)
          have hxm := List.mem_of_getElem? hx1
          have hym := List.mem_of_getElem? hy1
          obtain ⟨Ap, np, cp, ep⟩ := HB.out.form x hxm
          obtain ⟨Aq, nq, cq, eq⟩ := HB.out.form y hym
          obtain ⟨hx, hxf⟩ := HB.out.cell hx1
          obtain ⟨hy, hyf⟩ := HB.out.cell hy1
          have hcmp := fun W' (hs : Sw wr W' g) => cmp_calls W' g gn q ys (hEn.step hs (fun p hp => hp)) x y hxm hym
          rw [ep, eq] at hcmp
          have HC := Aside0.mk hcmp
          have hswp : swp ys j (j - 1) = P ++ x :: y :: R := by rw [eys]; exact swp_back P R y x j (j - 1) (by omega) (by omega)
          have HN := Aside0.mk (HB.out.swp_ hx1 hy1)
          have HN' := Aside0.mk (HB.out.swp_' (by omega) hx1 hy1)
          rw [hswp] at HN HN'
          have HS1 := Aside0.mk ((HS.out.set (pre.length + j) y.1).set (pre.length + (j - 1)) x.1)
          have HS2 := Aside0.mk ((HS.out.set (pre.length + (j - 1)) x.1).set (pre.length + j) y.1)
          have HST := Aside0.mk hstep
          have HSP := Aside0.mk hstop
          have HEY := Aside0.mk eys
          have jj : Aside0 ((j : Int) - 1 = ((j - 1 : Nat) : Int)) := ⟨by omega⟩
          rw [ep] at hx HN HN' HS1 HS2
          rw [eq] at hy HN HN' HS1 HS2
          obtain ⟨kx, hkx⟩ : ∃ kx, kx = keyQ q x := ⟨_, rfl⟩
          obtain ⟨ky, hky⟩ : ∃ ky, ky = keyQ q y := ⟨_, rfl⟩
          have hjl : j < len := by omega
          have hkk : rd x.2 q = kx ∧ rd y.2 q = ky := ⟨hkx.symm, hky.symm⟩
          rw [hkk.1, hkk.2] at HC
          rw [← hkx, ← hky] at HST HSP
          clear hxl hil hyl hP hstep hstop hx1 hy1 hEn hxm hym ep eq hcmp hswp eys hkx hky hkk
          by_cases hk : kx < ky
          · have hcv := cmpI_lt hk
            obtain ⟨r, hr⟩ : ∃ r, r = cmpI kx ky := ⟨_, rfl⟩
            rw [← hr] at HC hcv
            have HI2 := Aside0.mk (HST.out hk)
            clear hr hk
            go_wp2
            go_quiet ((first | exact Calls.quiet_of (HC.out _ ((Sw.refl _ _).drewN _))))
            go_wp2
            go_region
            all_goals
              go_wp2
              rw [jj.out]
              go_roundw
              case rel =>
                first
                | exact ⟨j - 1, _, rfl, by omega, by omega, HI2, ⟨HN.out.drewN _⟩, ⟨HS1.out.drewN _⟩⟩
                | exact ⟨j - 1, _, rfl, by omega, by omega, HI2, ⟨HN'.out.drewN _⟩, ⟨HS2.out.drewN _⟩⟩
              case measure => simp [intOf]; omega
          · have hcv := cmpI_ge hk
            obtain ⟨r, hr⟩ : ∃ r, r = cmpI kx ky := ⟨_, rfl⟩
            rw [← hr] at HC hcv
            have HI2 := Aside0.mk (HSP.out hk)
            have hcv2 : decide (r < 0) = false := by simpa using hcv
            clear hr hk
            go_wp2
            go_quiet ((first | exact Calls.quiet_of (HC.out _ ((Sw.refl _ _).drewN _))))
            go_wp2
            go_roundw
            case rel => exact ⟨i + 1, ys, by go_num, by omega, by omega, HI2, ⟨HB.out.drewN _⟩, ⟨HS.out.drewN _⟩⟩
            case measure => simp [intOf]; omega
        · obtain rfl : j = a := by omega
          have HI2 := Aside0.mk HI.out.low
          have hja2 : decide ((j : Int) > j) = false := by simp
          go_wp2
          go_quiet (fail)
          go_wp2
          go_roundw
          case rel => exact ⟨i + 1, ys, by go_num, by omega, by omega, HI2, ⟨HB.out.drewN _⟩, ⟨HS.out.drewN _⟩⟩
          case measure => simp [intOf]; omega
    · obtain rfl : i = b := by omega
      go_wp2
      go_end0
      exact ⟨rfl, HS.out, ys, HB.out, HO.out⟩
/-! #### merging -/
def MergeCalls (len c : Nat) (gn : Nat) (g : Nat) (q : Int) (pre post : List Value) (n : Nat) : Prop := ∀ (W : World) (P A B R : List (Value × List Int)) (a m b : Nat), A.length + B.length ≤ n → SortEnv W g gn q (P ++ (A ++ (B ++ R))) → Blk W g pre post (P ++ (A ++ (B ++ R))) → len = (P ++ (A ++ (B ++ R))).length → P.length = a → a + A.length = m → m + B.length = b → 1 ≤ A.length → 1 ≤ B.length → Sorted_ (keyQ q) A → Sorted_ (keyQ q) B →
    Calls Try.prog 176 #[.slice (some ⟨g, pre.length, none⟩) len c, .int .i64 a, .int .i64 m, .int .i64 b, .func (.func 128) #[] #[.pointer (some ⟨gn, 0, none⟩)]] W fun e W' => e = .returned (.tuple #[]) ∧ Sw W W' g ∧ ∃ C, Blk W' g pre post (P ++ (C ++ R)) ∧ Sorted_ (keyQ q) C ∧ Alike (keyQ q) (A ++ B) C
theorem half_range (i j : Nat) (h : i < j) : i ≤ (i + j) / 2 ∧ (i + j) / 2 < j := by omega
set_option maxRecDepth 100000 in
set_option maxHeartbeats 4000000 in
theorem sym_one (len c gn g : Nat) (q : Int) (pre post : List Value) (hc : len ≤ c) (hl : len ≤ 1000000) (hcm : c ≤ 9223372036854775807) (W : World) (P B R : List (Value × List Int)) (x : Value × List Int) (a b : Nat) (hE : SortEnv W g gn q (P ++ ([x] ++ (B ++ R)))) (h : Blk W g pre post (P ++ ([x] ++ (B ++ R)))) (hlen : len = (P ++ ([x] ++ (B ++ R))).length) (hP : P.length = a) (hm : a + 1 + B.length = b) (hB1 : 1 ≤ B.length) (hB : Sorted_ (keyQ q) B) :
    Calls Try.prog 176 #[.slice (some ⟨g, pre.length, none⟩) len c, .int .i64 a, .int .i64 ((a + 1 : Nat) : Int), .int .i64 b, .func (.func 128) #[] #[.pointer (some ⟨gn, 0, none⟩)]] W fun e W' => e = .returned (.tuple #[]) ∧ Sw W W' g ∧ ∃ C, Blk W' g pre post (P ++ (C ++ R)) ∧ Sorted_ (keyQ q) C ∧ Alike (keyQ q) ([x] ++ B) C := by
  have HE := Aside0.mk hE
  have HH := Aside0.mk h
  have HLEN := Aside0.mk hlen
  have HP := Aside0.mk hP
  have HM := Aside0.mk hm
  have HB := Aside0.mk hB
  have hbl : b ≤ len := by rw [hlen]; simp only [List.length_append, List.length_singleton]; omega
  have hab : a + 1 < b := by omega
  obtain ⟨m, hmm⟩ : ∃ m, m = a + 1 := ⟨_, rfl⟩
  have HMM := Aside0.mk hmm
  have e1 : (m : Int) - a = 1 := by omega
  rw [← hmm] at hab ⊢
  have ham : a < m := by omega
  clear hE h hlen hP hm hB hB1 hmm
  go_enter Try.func176, Try.ntmps176
  go_wp2
  clear e1
  go_loopw [10, 11] (fun v10 v11 w' => ∃ i j : Nat, v10 = .int .i64 i ∧ v11 = .int .i64 j ∧ m ≤ i ∧ i ≤ j ∧ j ≤ b ∧ Aside0 (i = m ∨ ∀ y, (P ++ ([x] ++ (B ++ R)))[i - 1]? = some y → keyQ q y < keyQ q x) ∧ Aside0 (j = b ∨ ∀ y, (P ++ ([x] ++ (B ++ R)))[j]? = some y → keyQ q x ≤ keyQ q y) ∧ Aside0 (Blk w' g pre post (P ++ ([x] ++ (B ++ R)))) ∧ Aside0 (Sw W w' g)) (fun v10 v11 w' => (intOf v11).toNat - (intOf v10).toNat)
  case atStart => exact ⟨m, b, rfl, rfl, by omega, by omega, by omega, ⟨.inl rfl⟩, ⟨.inl rfl⟩, HH, ⟨Sw.refl _ _⟩⟩
  case round =>
    obtain ⟨i, j, rfl, rfl, hi, hij, hj, HI, HJ, HW, HS⟩ := hrel
    clear HH
    by_cases hlt : i < j
    · obtain ⟨hh1, hh2⟩ := half_range i j hlt
      obtain ⟨k, hk⟩ : ∃ k, k = (i + j) / 2 := ⟨_, rfl⟩
      have HK := Aside0.mk hk
      rw [← hk] at hh1 hh2
      have hkl : k < len := by omega
      have hal : a < len := by omega
      obtain ⟨y, hy1⟩ := getElem?_of_lt (l := P ++ ([x] ++ (B ++ R))) (i := k) (by rw [← HLEN.out]; exact hkl)
      have hx1 : (P ++ ([x] ++ (B ++ R)))[a]? = some x := by rw [List.getElem?_append_right (by have := HP.out; omega), HP.out, Nat.sub_self]; rfl
      have hxm := List.mem_of_getElem? hx1
      have hym := List.mem_of_getElem? hy1
      obtain ⟨Ap, np, cp, ep⟩ := HW.out.form x hxm
      obtain ⟨Aq, nq, cq, eq⟩ := HW.out.form y hym
      obtain ⟨hx, hxf⟩ := HW.out.cell hx1
      obtain ⟨hy, hyf⟩ := HW.out.cell hy1
      have hcmp := fun W' (hs : Sw wr W' g) => cmp_calls W' g gn q _ (HE.out.step (HS.out.trans hs) (fun p hp => hp)) y x hym hxm
      rw [ep, eq] at hcmp
      have HC := Aside0.mk hcmp
      rw [ep] at hx
      rw [eq] at hy
      have HY := Aside0.mk hy1
      clear hx1 hxm hym ep eq hcmp hy1 hk
      have kk : Aside0 (((i : Int) + j) / 2 = (k : Nat)) := ⟨by rw [HK.out]; omega⟩
      obtain ⟨kx, hkx⟩ : ∃ kx, kx = keyQ q x := ⟨_, rfl⟩
      obtain ⟨ky, hky⟩ : ∃ ky, ky = keyQ q y := ⟨_, rfl⟩
      have HKX := Aside0.mk hkx
      have HKY := Aside0.mk hky
      have hkk : rd y.2 q = ky ∧ rd x.2 q = kx := ⟨hky.symm, hkx.symm⟩
      rw [hkk.1, hkk.2] at HC
      clear hkx hky hkk
      by_cases hk : ky < kx
      · have hcv := cmpI_lt hk
        obtain ⟨r, hr⟩ : ∃ r, r = cmpI ky kx := ⟨_, rfl⟩
        rw [← hr] at HC hcv
        have HI2 : Aside0 (k + 1 = m ∨ ∀ y, (P ++ ([x] ++ (B ++ R)))[k + 1 - 1]? = some y → keyQ q y < keyQ q x) := ⟨.inr (fun z hz => by rw [Nat.add_sub_cancel, HY.out] at hz; rw [← Option.some.inj hz, ← HKX.out, ← HKY.out]; exact hk)⟩
        clear hr hk
        go_wp2
        rw [kk.out]
        go_quiet ((exact Calls.quiet_of (HC.out _ ((Sw.refl _ _).drewN _))))
        go_wp2
        go_roundw
        case rel => exact ⟨k + 1, j, by go_num, rfl, by omega, by omega, hj, HI2, HJ, ⟨HW.out.drewN _⟩, ⟨HS.out.drewN _⟩⟩
        case measure => simp [intOf]; omega
      · have hcv := cmpI_ge hk
        obtain ⟨r, hr⟩ : ∃ r, r = cmpI ky kx := ⟨_, rfl⟩
        rw [← hr] at HC hcv
        have HJ2 : Aside0 (k = b ∨ ∀ y, (P ++ ([x] ++ (B ++ R)))[k]? = some y → keyQ q x ≤ keyQ q y) := ⟨.inr (fun z hz => by rw [HY.out] at hz; rw [← Option.some.inj hz, ← HKX.out, ← HKY.out]; exact Int.not_lt.1 hk)⟩
        have hcv2 : decide (r < 0) = false := by simpa using hcv
        clear hr hk
        go_wp2
        rw [kk.out]
        go_quiet ((exact Calls.quiet_of (HC.out _ ((Sw.refl _ _).drewN _))))
        go_wp2
        go_roundw
        case rel => exact ⟨i, k, rfl, rfl, hi, by omega, by omega, HI, HJ2, ⟨HW.out.drewN _⟩, ⟨HS.out.drewN _⟩⟩
        case measure => simp [intOf]; omega
    · obtain rfl : i = j := by omega
      have hcut := search_cut (key := keyQ q) (P := fun y => keyQ q y < keyQ q x) (p := P ++ [x]) (s := R) HB.out (fun u v h1 h2 => by omega) i (by rw [List.length_append, List.length_singleton, HP.out, ← HMM.out]; exact hi) (by rw [List.length_append, List.length_singleton, HP.out, HM.out]; exact hj)
        (by rw [List.length_append, List.length_singleton, HP.out, ← HMM.out, List.append_assoc]; exact HI.out) (by rw [List.length_append, List.length_singleton, HP.out, HM.out, List.append_assoc]; exact HJ.out.imp id (fun h y hy => Int.not_lt.2 (h y hy)))
      obtain ⟨B1, B2, hBB, hb1, hb2, hb3⟩ := hcut
      rw [List.length_append, List.length_singleton, HP.out] at hb1
      have HO := Aside0.mk (one_left (key := keyQ q) (x := x) (B1 := B1) (B2 := B2) (by rw [← hBB]; exact HB.out) hb2 (fun y hy => Int.not_lt.1 (hb3 y hy)))
      rw [← hBB] at HO
      have H0 : Aside0 (Blk wr g pre post (P ++ (B1.take 0 ++ x :: (B1.drop 0 ++ (B2 ++ R))))) := ⟨by have := HW.out; rw [hBB] at this; simpa using this⟩
      have hnl : B1.length + a + 1 = i := by omega
      have HB1 : Aside0 (P.length = a) := HP
      have hil : i ≤ len := by omega
      clear hb1 hb2 hb3 hBB HI HJ
      go_wp2
      go_loopw [13] (fun v13 w' => ∃ t : Nat, v13 = .int .i64 ((a + t : Nat) : Int) ∧ t ≤ B1.length ∧ Aside0 (Blk w' g pre post (P ++ (B1.take t ++ x :: (B1.drop t ++ (B2 ++ R))))) ∧ Aside0 (Sw W w' g)) (fun v13 w' => i - (intOf v13).toNat)
      case atStart => exact ⟨0, rfl, by omega, H0, HS⟩
      case round =>
        clear H0 HW HS
        obtain ⟨t, rfl, ht, HB2, HS⟩ := hrel
        obtain ⟨k, hk⟩ : ∃ k, k = a + t := ⟨_, rfl⟩
        rw [← hk]
        by_cases hlt : t < B1.length
        · have hdr : B1.drop t = B1[t] :: B1.drop (t + 1) := List.drop_eq_getElem_cons hlt
          obtain ⟨y, hy0⟩ : ∃ y, y = B1[t] := ⟨_, rfl⟩
          rw [← hy0] at hdr
          have hPt : (P ++ B1.take t).length = k := by rw [List.length_append, List.length_take, HP.out]; omega
          have eys : P ++ (B1.take t ++ x :: (B1.drop t ++ (B2 ++ R))) = (P ++ B1.take t) ++ x :: y :: (B1.drop (t + 1) ++ (B2 ++ R)) := by rw [hdr]; simp
          have HB3 := HB2.out
          rw [eys] at HB3
          have hx1 : ((P ++ B1.take t) ++ x :: y :: (B1.drop (t + 1) ++ (B2 ++ R)))[k]? = some x := by rw [List.getElem?_append_right (by omega), hPt, Nat.sub_self]; rfl
          have hy1 : ((P ++ B1.take t) ++ x :: y :: (B1.drop (t + 1) ++ (B2 ++ R)))[k + 1]? = some y := by rw [List.getElem?_append_right (by omega), hPt, Nat.add_sub_cancel_left]; rfl
          obtain ⟨Ap, np, cp, ep⟩ := HB3.form x (List.mem_of_getElem? hx1)
          obtain ⟨Aq, nq, cq, eq⟩ := HB3.form y (List.mem_of_getElem? hy1)
          obtain ⟨hx, hxf⟩ := HB3.cell hx1
          obtain ⟨hy, hyf⟩ := HB3.cell hy1
          have hn := swp_next (P ++ B1.take t) (B1.drop (t + 1) ++ (B2 ++ R)) x y k (k + 1) hPt.symm (by omega)
          have e2 : (P ++ B1.take t) ++ y :: x :: (B1.drop (t + 1) ++ (B2 ++ R)) = P ++ (B1.take (t + 1) ++ x :: (B1.drop (t + 1) ++ (B2 ++ R))) := by rw [List.take_succ_eq_append_getElem hlt, ← hy0]; simp
          have HN := Aside0.mk (HB3.swp_ hx1 hy1)
          have HN' := Aside0.mk (HB3.swp_' (by omega) hx1 hy1)
          rw [hn, e2] at HN HN'
          have HS1 := Aside0.mk ((HS.out.set (pre.length + k) y.1).set (pre.length + (k + 1)) x.1)
          have HS2 := Aside0.mk ((HS.out.set (pre.length + (k + 1)) x.1).set (pre.length + k) y.1)
          rw [ep] at hx HN HN' HS1 HS2
          rw [eq] at hy HN HN' HS1 HS2
          have HK := Aside0.mk hk
          have hki : (k : Int) < i - 1 := by omega
          have hkl : k + 1 < len := by omega
          clear hdr hy0 hPt eys HB3 hx1 hy1 ep eq hn e2 HB2 HS
          clear hk
          go_wp2
          go_region
          all_goals
            go_wp2
            go_roundw
            case rel =>
              first
              | exact ⟨t + 1, by rw [HK.out]; go_num, by omega, ⟨HN.out.drewN _⟩, ⟨HS1.out.drewN _⟩⟩
              | exact ⟨t + 1, by rw [HK.out]; go_num, by omega, ⟨HN'.out.drewN _⟩, ⟨HS2.out.drewN _⟩⟩
            case measure => simp [intOf]; omega
        · obtain rfl : t = B1.length := by omega
          have hki : ¬ (k : Int) < i - 1 := by omega
          have HF : Aside0 (Blk wr g pre post (P ++ ((B1 ++ x :: B2) ++ R))) := ⟨by have := HB2.out; rw [List.take_length, List.drop_length] at this; simpa using this⟩
          clear hk
          go_wp2
          (try simp only [Exit.inBlock, Exit.then])
          refine bodyPost_ret (results_none rfl _ _ _) rfl ?_
          exact ⟨rfl, HS.out, _, HF.out, HO.out.1, HO.out.2⟩
set_option maxRecDepth 100000 in
set_option maxHeartbeats 4000000 in
theorem sym_last (len c gn g : Nat) (q : Int) (pre post : List Value) (hc : len ≤ c) (hl : len ≤ 1000000) (hcm : c ≤ 9223372036854775807) (W : World) (P A R : List (Value × List Int)) (x : Value × List Int) (a m : Nat) (hE : SortEnv W g gn q (P ++ (A ++ ([x] ++ R)))) (h : Blk W g pre post (P ++ (A ++ ([x] ++ R)))) (hlen : len = (P ++ (A ++ ([x] ++ R))).length) (hP : P.length = a) (hm : a + A.length = m) (hA1 : 2 ≤ A.length) (hA : Sorted_ (keyQ q) A) :
    Calls Try.prog 176 #[.slice (some ⟨g, pre.length, none⟩) len c, .int .i64 a, .int .i64 m, .int .i64 ((m + 1 : Nat) : Int), .func (.func 128) #[] #[.pointer (some ⟨gn, 0, none⟩)]] W fun e W' => e = .returned (.tuple #[]) ∧ Sw W W' g ∧ ∃ C, Blk W' g pre post (P ++ (C ++ R)) ∧ Sorted_ (keyQ q) C ∧ Alike (keyQ q) (A ++ [x]) C := by
  have HE := Aside0.mk hE
  have HH := Aside0.mk h
  have HLEN := Aside0.mk hlen
  have HP := Aside0.mk hP
  have HM := Aside0.mk hm
  have HA := Aside0.mk hA
  have hml : m + 1 ≤ len := by rw [hlen]; simp only [List.length_append, List.length_singleton]; omega
  have ham : a + 1 < m := by omega
  obtain ⟨b, hbb⟩ : ∃ b, b = m + 1 := ⟨_, rfl⟩
  have e1 : (b : Int) - m = 1 := by omega
  have e2 : ((m : Int) - a == 1) = false := by rw [beq_eq_false_iff_ne]; omega
  have e3 : ¬ (m : Int) - a = 1 := by omega
  have hbl : b ≤ len := by omega
  have hmb : m < b := by omega
  rw [← hbb]
  clear hE h hlen hP hm hA hA1 hbb
  go_enter Try.func176, Try.ntmps176
  go_wp2
  clear e1 e2 e3
  go_loopw [14, 15] (fun v14 v15 w' => ∃ i j : Nat, v14 = .int .i64 i ∧ v15 = .int .i64 j ∧ a ≤ i ∧ i ≤ j ∧ j ≤ m ∧ Aside0 (i = a ∨ ∀ y, (P ++ (A ++ ([x] ++ R)))[i - 1]? = some y → keyQ q y ≤ keyQ q x) ∧ Aside0 (j = m ∨ ∀ y, (P ++ (A ++ ([x] ++ R)))[j]? = some y → keyQ q x < keyQ q y) ∧ Aside0 (Blk w' g pre post (P ++ (A ++ ([x] ++ R)))) ∧ Aside0 (Sw W w' g)) (fun v14 v15 w' => (intOf v15).toNat - (intOf v14).toNat)
  case atStart => exact ⟨a, m, rfl, rfl, by omega, by omega, by omega, ⟨.inl rfl⟩, ⟨.inl rfl⟩, HH, ⟨Sw.refl _ _⟩⟩
  case round =>
    obtain ⟨i, j, rfl, rfl, hi, hij, hj, HI, HJ, HW, HS⟩ := hrel
    clear HH
    by_cases hlt : i < j
    · obtain ⟨hh1, hh2⟩ := half_range i j hlt
      obtain ⟨k, hk⟩ : ∃ k, k = (i + j) / 2 := ⟨_, rfl⟩
      have HK := Aside0.mk hk
      rw [← hk] at hh1 hh2
      have hkl : k < len := by omega
      have hal : m < len := by omega
      obtain ⟨y, hy1⟩ := getElem?_of_lt (l := P ++ (A ++ ([x] ++ R))) (i := k) (by rw [← HLEN.out]; exact hkl)
      have hx1 : (P ++ (A ++ ([x] ++ R)))[m]? = some x := by
        rw [← List.append_assoc, List.getElem?_append_right (by rw [List.length_append]; have := HP.out; have := HM.out; omega), List.length_append, show m - (P.length + A.length) = 0 by have := HP.out; have := HM.out; omega]; rfl
      have hxm := List.mem_of_getElem? hx1
      have hym := List.mem_of_getElem? hy1
      obtain ⟨Ap, np, cp, ep⟩ := HW.out.form x hxm
      obtain ⟨Aq, nq, cq, eq⟩ := HW.out.form y hym
      obtain ⟨hx, hxf⟩ := HW.out.cell hx1
      obtain ⟨hy, hyf⟩ := HW.out.cell hy1
      have hcmp := fun W' (hs : Sw wr W' g) => cmp_calls W' g gn q _ (HE.out.step (HS.out.trans hs) (fun p hp => hp)) x y hxm hym
      rw [ep, eq] at hcmp
      have HC := Aside0.mk hcmp
      rw [ep] at hx
      rw [eq] at hy
      have HY := Aside0.mk hy1
      clear hx1 hxm hym ep eq hcmp hy1 hk
      have kk : Aside0 (((i : Int) + j) / 2 = (k : Nat)) := ⟨by rw [HK.out]; omega⟩
      obtain ⟨kx, hkx⟩ : ∃ kx, kx = keyQ q x := ⟨_, rfl⟩
      obtain ⟨ky, hky⟩ : ∃ ky, ky = keyQ q y := ⟨_, rfl⟩
      have HKX := Aside0.mk hkx
      have HKY := Aside0.mk hky
      have hkk : rd y.2 q = ky ∧ rd x.2 q = kx := ⟨hky.symm, hkx.symm⟩
      rw [hkk.1, hkk.2] at HC
      clear hkx hky hkk
      by_cases hk : kx < ky
      · have hcv := cmpI_lt hk
        obtain ⟨r, hr⟩ : ∃ r, r = cmpI kx ky := ⟨_, rfl⟩
        rw [← hr] at HC hcv
        have HJ2 : Aside0 (k = m ∨ ∀ y, (P ++ (A ++ ([x] ++ R)))[k]? = some y → keyQ q x < keyQ q y) := ⟨.inr (fun z hz => by rw [HY.out] at hz; rw [← Option.some.inj hz, ← HKX.out, ← HKY.out]; exact hk)⟩
        clear hr hk
        go_wp2
        rw [kk.out]
        go_quiet ((exact Calls.quiet_of (HC.out _ ((Sw.refl _ _).drewN _))))
        go_wp2
        go_roundw
        case rel => exact ⟨i, k, rfl, rfl, hi, by omega, by omega, HI, HJ2, ⟨HW.out.drewN _⟩, ⟨HS.out.drewN _⟩⟩
        case measure => simp [intOf]; omega
      · have hcv := cmpI_ge hk
        obtain ⟨r, hr⟩ : ∃ r, r = cmpI kx ky := ⟨_, rfl⟩
        rw [← hr] at HC hcv
        have HI2 : Aside0 (k + 1 = a ∨ ∀ y, (P ++ (A ++ ([x] ++ R)))[k + 1 - 1]? = some y → keyQ q y ≤ keyQ q x) := ⟨.inr (fun z hz => by rw [Nat.add_sub_cancel, HY.out] at hz; rw [← Option.some.inj hz, ← HKX.out, ← HKY.out]; exact Int.not_lt.1 hk)⟩
        have hcv2 : decide (r < 0) = false := by simpa using hcv
        clear hr hk
        go_wp2
        rw [kk.out]
        go_quiet ((exact Calls.quiet_of (HC.out _ ((Sw.refl _ _).drewN _))))
        go_wp2
        go_roundw
        case rel => exact ⟨k + 1, j, by go_num, rfl, by omega, by omega, hj, HI2, HJ, ⟨HW.out.drewN _⟩, ⟨HS.out.drewN _⟩⟩
        case measure => simp [intOf]; omega
    · obtain rfl : i = j := by omega
      have hcut := search_cut (key := keyQ q) (P := fun y => keyQ q y ≤ keyQ q x) (p := P) (s := [x] ++ R) HA.out (fun u v h1 h2 => by omega) i (by rw [HP.out]; exact hi) (by rw [HP.out, HM.out]; exact hj)
        (by rw [HP.out]; exact HI.out) (by rw [HP.out, HM.out]; exact HJ.out.imp id (fun h y hy => Int.not_le.2 (h y hy)))
      obtain ⟨A1, A2, hAA, hb1, hb2, hb3⟩ := hcut
      rw [HP.out] at hb1
      have HO := Aside0.mk (one_right (key := keyQ q) (x := x) (A1 := A1) (A2 := A2) (by rw [← hAA]; exact HA.out) hb2 (fun y hy => Int.not_le.1 (hb3 y hy)))
      rw [← hAA] at HO
      have hl2 : i + A2.length = m := by have := HM.out; rw [hAA, List.length_append] at this; omega
      have H0 : Aside0 (Blk wr g pre post (P ++ (A1 ++ (A2.take A2.length ++ x :: (A2.drop A2.length ++ R))))) := ⟨by have := HW.out; rw [hAA] at this; rw [List.take_length, List.drop_length]; simpa using this⟩
      have HL1 := Aside0.mk hb1
      have HL2 := Aside0.mk hl2
      have hal2 : A2.length ≤ m := by omega
      have hil : i ≤ m := by omega
      clear hb1 hb2 hb3 hAA HI HJ hl2
      go_wp2
      go_loopw [17] (fun v17 w' => ∃ t : Nat, v17 = .int .i64 ((i + t : Nat) : Int) ∧ t ≤ A2.length ∧ Aside0 (Blk w' g pre post (P ++ (A1 ++ (A2.take t ++ x :: (A2.drop t ++ R))))) ∧ Aside0 (Sw W w' g)) (fun v17 w' => (intOf v17).toNat)
      case atStart => exact ⟨A2.length, by rw [HL2.out], by omega, H0, HS⟩
      case round =>
        clear H0 HW HS
        obtain ⟨t, rfl, ht, HB2, HS⟩ := hrel
        obtain ⟨k, hk⟩ : ∃ k, k = i + t := ⟨_, rfl⟩
        rw [← hk]
        have hA2m : i + A2.length = m := HL2.out
        by_cases hlt : 0 < t
        · obtain ⟨s, rfl⟩ : ∃ s, t = s + 1 := ⟨t - 1, by omega⟩
          have hs : s < A2.length := by omega
          obtain ⟨y, hy0⟩ : ∃ y, y = A2[s] := ⟨_, rfl⟩
          have htk : A2.take (s + 1) = A2.take s ++ [y] := by rw [List.take_succ_eq_append_getElem hs, ← hy0]
          have hdr : A2.drop s = y :: A2.drop (s + 1) := by rw [List.drop_eq_getElem_cons hs, ← hy0]
          have hPt : (P ++ (A1 ++ A2.take s)).length + 1 = k := by rw [List.length_append, List.length_append, List.length_take]; have := HP.out; have := HL1.out; omega
          have eys : P ++ (A1 ++ (A2.take (s + 1) ++ x :: (A2.drop (s + 1) ++ R))) = (P ++ (A1 ++ A2.take s)) ++ y :: x :: (A2.drop (s + 1) ++ R) := by rw [htk]; simp
          have HB3 := HB2.out
          rw [eys] at HB3
          have hy1 : ((P ++ (A1 ++ A2.take s)) ++ y :: x :: (A2.drop (s + 1) ++ R))[k - 1]? = some y := by rw [List.getElem?_append_right (by omega), show k - 1 - (P ++ (A1 ++ A2.take s)).length = 0 by omega]; rfl
          have hx1 : ((P ++ (A1 ++ A2.take s)) ++ y :: x :: (A2.drop (s + 1) ++ R))[k]? = some x := by rw [List.getElem?_append_right (by omega), show k - (P ++ (A1 ++ A2.take s)).length = 1 by omega]; rfl
          obtain ⟨Ap, np, cp, ep⟩ := HB3.form x (List.mem_of_getElem? hx1)
          obtain ⟨Aq, nq, cq, eq⟩ := HB3.form y (List.mem_of_getElem? hy1)
          obtain ⟨hx, hxf⟩ := HB3.cell hx1
          obtain ⟨hy, hyf⟩ := HB3.cell hy1
          have hn := swp_back (P ++ (A1 ++ A2.take s)) (A2.drop (s + 1) ++ R) y x k (k - 1) hPt.symm (by omega)
          have e2 : (P ++ (A1 ++ A2.take s)) ++ x :: y :: (A2.drop (s + 1) ++ R) = P ++ (A1 ++ (A2.take s ++ x :: (A2.drop s ++ R))) := by rw [hdr]; simp
          have HN := Aside0.mk (HB3.swp_ hx1 hy1)
          have HN' := Aside0.mk (HB3.swp_' (by omega) hx1 hy1)
          rw [hn, e2] at HN HN'
          have HS1 := Aside0.mk ((HS.out.set (pre.length + k) y.1).set (pre.length + (k - 1)) x.1)
          have HS2 := Aside0.mk ((HS.out.set (pre.length + (k - 1)) x.1).set (pre.length + k) y.1)
          rw [ep] at hx HN HN' HS1 HS2
          rw [eq] at hy HN HN' HS1 HS2
          have HK := Aside0.mk hk
          have hki : (k : Int) > i := by omega
          have hkl : k < len := by omega
          have hk1 : 1 ≤ k := by omega
          have jj : Aside0 ((k : Int) - 1 = ((i + s : Nat) : Int)) := ⟨by omega⟩
          clear hdr hy0 hPt eys HB3 hx1 hy1 ep eq hn e2 HB2 HS htk hA2m
          clear hk
          go_wp2
          go_region
          all_goals
            go_wp2
            rw [jj.out]
            go_roundw
            case rel =>
              first
              | exact ⟨s, rfl, by omega, ⟨HN.out.drewN _⟩, ⟨HS1.out.drewN _⟩⟩
              | exact ⟨s, rfl, by omega, ⟨HN'.out.drewN _⟩, ⟨HS2.out.drewN _⟩⟩
            case measure => have hkk := HK.out; simp [intOf]; omega
        · obtain rfl : t = 0 := by omega
          have hki : ¬ (k : Int) > i := by omega
          have HF : Aside0 (Blk wr g pre post (P ++ ((A1 ++ x :: A2) ++ R))) := ⟨by have := HB2.out; simpa using this⟩
          clear hk hA2m
          go_wp2
          (try simp only [Exit.inBlock, Exit.then])
          refine bodyPost_ret (results_none rfl _ _ _) rfl ?_
          exact ⟨rfl, HS.out, _, HF.out, HO.out.1, HO.out.2⟩
end Go.Proofs.Ytcjjmfpkhhdmlaa.G

namespace Go.Proofs.Ytcjjmfpkhhdmlaa.G
open Go.RowKit Go.Proofs.YtcjjmfpkhhdmlaaW.PrintWords Go.Proofs.YtcjjmfpkhhdmlaaW.PrintLast Go.Proofs.YtcjjmfpkhhdmlaaW.PrintMore
attribute [local go_sem] max2_int min2_int max_two min_two max_three min_three max_four min_four   -- for this text's walks alone
/-! Palette's boxes: ranges of one row that is sorted in its ranges -/
abbrev dRow : Kd (List Int) := Kd.slice 3 (Kd.int .i64)
theorem fst_snd_zip {α β : Type} (a : List α) (b : List β) (h : a.length = b.length) : (a.zip b).map Prod.fst = a ∧ (a.zip b).map Prod.snd = b := by
  induction a generalizing b with
  | nil => cases b with
    | nil => exact ⟨rfl, rfl⟩
    | cons y b => simp at h
  | cons x a ih => cases b with
    | nil => simp at h
    | cons y b =>
      have := ih b (by simpa using h)
      exact ⟨by simp [this.1], by simp [this.2]⟩
/-- a row of rows, as a block that is known whole -/
theorem N_blk {W : World} {base : Nat} {ok : Nat → Prop} {v : Value} {l : List (List Int)} (h : Kd.N dRow 22 W base ok v l) (hl : 0 < l.length) :
    ∃ g cap post, ∃ xs : List (Value × List Int), v = .slice (some ⟨g, 0, none⟩) l.length cap ∧ base ≤ g ∧ l.length ≤ cap ∧ cap ≤ 9223372036854775807 ∧ xs.map Prod.snd = l ∧ Blk W g [] post xs ∧ ∀ p ∈ xs, Kd.FK dRow W (fun k => ok k ∧ k ≠ g) p.2 [p.1] := by
  obtain ⟨_, rows, hrl, ⟨_, inner, ho, hrep⟩, hf⟩ := h
  obtain ⟨hil, ho⟩ := ho
  have hr1 := hrep.1
  rw [show (Kd.raw dRow.sz).sz = 1 from rfl, Nat.mul_one] at hil hr1
  rw [hrl] at hil hr1
  rcases ho with ⟨_, h0⟩ | ⟨g, cap, cur, rfl, hg, hb, hn, hm, hs, ht⟩
  · omega
  rw [hrl, show (Kd.raw dRow.sz).sz = 1 from rfl, Nat.mul_one] at ht
  rw [hrl] at hn
  have hz := fst_snd_zip inner l hil
  have hrow : ∀ (j : Nat) (x : List Int), l[j]? = some x → ∃ u, inner[j]? = some u ∧ Kd.FK dRow W (fun k => ok k ∧ k ≠ g) x [u] := by
    intro j x hx
    have hj := (List.getElem?_eq_some_iff.1 hx).1
    obtain ⟨c, hc⟩ := getElem?_of_lt (l := rows) (i := j) (by omega)
    obtain ⟨u, hu⟩ := getElem?_of_lt (l := inner) (i := j) (by omega)
    have h1 := (hrep.2 j c hc).1
    rw [show (Kd.raw dRow.sz).sz = 1 from rfl, Nat.mul_one] at h1
    have h2 : c = [u] := by
      rw [← h1]
      have hj2 := (List.getElem?_eq_some_iff.1 hu)
      rw [List.drop_eq_getElem_cons hj2.1, hj2.2]
      rfl
    refine ⟨u, hu, ?_⟩
    have := hf j x c hx hc
    rw [h2] at this
    exact Kd.FK_mono this (fun k hk => ⟨hk.1, fun e => hk.2 (by rw [e]; rfl)⟩)
  have hmem : ∀ p ∈ inner.zip l, Kd.FK dRow W (fun k => ok k ∧ k ≠ g) p.2 [p.1] := by
    intro p hp
    obtain ⟨j, hj, e⟩ := List.getElem_of_mem hp
    have hjl : j < l.length := by rw [List.length_zip] at hj; omega
    obtain ⟨u, hu, hfk⟩ := hrow j l[j] (List.getElem?_eq_getElem hjl)
    have e2 : p = (inner[j]'(by omega), l[j]) := by rw [← e, List.getElem_zip]
    have e3 : inner[j]'(by omega) = u := (List.getElem?_eq_some_iff.1 hu).2
    rw [e2, e3]
    exact hfk
  refine ⟨g, cap, cur.toList.drop l.length, inner.zip l, by rw [hrl], hg, hn, hm, hz.2, ⟨?_, fun p hp => ?_⟩, hmem⟩
  · rw [hz.1, hb]
    congr 2
    rw [List.nil_append, ← ht, List.take_append_drop]
  · obtain ⟨A, c, e, _⟩ := Kd.FK_now (hmem p hp)
    exact ⟨A, _, c, by simpa using e⟩
theorem blk_C {W : World} {g : Nat} {post : List Value} {L : List (Value × List Int)} (h : Blk W g [] post L) (hrow : ∀ p ∈ L, dRow.K W p.2 [p.1]) (off len : Nat) (ho : off + len ≤ L.length) (hL : L.length ≤ 1000000) :
    Kd.C dRow W (some ⟨g, off, none⟩) len ((run_ L off len).map Prod.snd) := by
  have hl : (run_ L off len).length = len := by unfold run_; rw [List.length_take, List.length_drop]; omega
  refine ⟨by rw [List.length_map]; exact hl, by omega, fun _ => ⟨_, rfl, fun j p hj => ?_⟩⟩
  rw [List.getElem?_map] at hj
  obtain ⟨x, hx, rfl⟩ := Option.map_eq_some_iff.1 hj
  have hjl : j < len := by have := (List.getElem?_eq_some_iff.1 hx).1; omega
  have hx2 : L[off + j]? = some x := by
    unfold run_ at hx
    rw [List.getElem?_take_of_lt hjl, List.getElem?_drop] at hx
    exact hx
  refine ⟨[x.1], rfl, hrow x (List.mem_of_getElem? hx2), fun i u hu => ?_⟩
  obtain ⟨rfl, rfl⟩ : i = 0 ∧ u = x.1 := by
    rcases i with _ | i
    · exact ⟨rfl, by simpa using hu.symm⟩
    · simp at hu
  have := (h.cell hx2).1
  simp only [List.length_nil, Nat.zero_add] at this
  rw [show dRow.sz = 1 from rfl, Nat.mul_one, Nat.add_zero, show (⟨g, off, none⟩ : Addr).add j = ⟨g, off + j, none⟩ by simp [Addr.add]]
  exact this
theorem split3 {α : Type} (L : List α) (off len : Nat) : L = L.take off ++ (run_ L off len ++ L.drop (off + len)) := by
  unfold run_
  rw [← List.drop_drop, List.take_append_drop, List.take_append_drop]
/-- a range of the block, as a block of its own -/
theorem Blk.part {W : World} {g : Nat} {post : List Value} {L : List (Value × List Int)} (h : Blk W g [] post L) (off len : Nat) : Blk W g ((L.take off).map Prod.fst) ((L.drop (off + len)).map Prod.fst ++ post) (run_ L off len) := by
  refine ⟨?_, fun p hp => h.form p (List.mem_of_mem_drop (List.mem_of_mem_take hp))⟩
  rw [h.blk]
  congr 2
  conv => lhs; rw [split3 L off len]
  simp
theorem Blk.join {W : World} {g : Nat} {post : List Value} {P ys S : List (Value × List Int)} (h : Blk W g (P.map Prod.fst) (S.map Prod.fst ++ post) ys) (hP : ∀ p ∈ P, ∃ A n c, p.1 = .slice A n c) (hS : ∀ p ∈ S, ∃ A n c, p.1 = .slice A n c) : Blk W g [] post (P ++ (ys ++ S)) := by
  refine ⟨?_, fun p hp => ?_⟩
  · rw [h.blk]
    congr 2
    simp
  · rcases List.mem_append.1 hp with hp | hp
    · exact hP p hp
    · rcases List.mem_append.1 hp with hp | hp
      · exact h.form p hp
      · exact hS p hp
/-- a box's cell: its range's head -/
def boxHdr (g cap : Nat) (s : Nat × Nat) : List Value := [.slice (some ⟨g, s.1, none⟩) s.2 (cap - s.1)]
/-- the boxes are ranges of the row -/
structure Segs (n : Nat) (L : List (Value × List Int)) (segs : List (Nat × Nat)) (bs : List (List (List Int))) : Prop where
  len : segs.length = bs.length
  size : L.length = n
  at_ : ∀ (j : Nat) (s : Nat × Nat), segs[j]? = some s → 1 ≤ s.2 ∧ s.1 + s.2 ≤ n ∧ bs.getD j [] = (run_ L s.1 s.2).map Prod.snd
  far : ∀ (i j : Nat) (s t : Nat × Nat), segs[i]? = some s → segs[j]? = some t → i ≠ j → s.1 + s.2 ≤ t.1 ∨ t.1 + t.2 ≤ s.1
theorem run_split {α : Type} (L : List α) (off h len : Nat) (hh : h ≤ len) : run_ L off h = (run_ L off len).take h ∧ run_ L (off + h) (len - h) = (run_ L off len).drop h := by
  unfold run_
  constructor
  · rw [List.take_take, Nat.min_eq_left hh]
  · rw [List.drop_take, List.drop_drop]
theorem getD_set_ne {α : Type} (l : List α) (i j : Nat) (v z : α) (h : i ≠ j) : (l.set i v).getD j z = l.getD j z := by
  rw [List.getD_eq_getElem?_getD, List.getD_eq_getElem?_getD, List.getElem?_set_ne h]
theorem Segs.part {n : Nat} {L : List (Value × List Int)} {segs : List (Nat × Nat)} {bs : List (List (List Int))} (h : Segs n L segs bs) (i : Nat) (s : Nat × Nat) (hs : segs[i]? = some s) (ys : List (Value × List Int)) (hy : ys.length = s.2) (hh : Nat) (h1 : 1 ≤ hh) (h2 : hh < s.2) :
    Segs n (L.take s.1 ++ (ys ++ L.drop (s.1 + s.2))) (segs.set i (s.1, hh) ++ [(s.1 + hh, s.2 - hh)]) (bs.set i ((ys.map Prod.snd).take hh) ++ [(ys.map Prod.snd).drop hh]) := by
  obtain ⟨e1, e2, e3⟩ := h.at_ i s hs
  have hi := (List.getElem?_eq_some_iff.1 hs).1
  have hlen := h.len
  have hsz := h.size
  have hother : ∀ (j : Nat) (t : Nat × Nat), segs[j]? = some t → j ≠ i → run_ (L.take s.1 ++ (ys ++ L.drop (s.1 + s.2))) t.1 t.2 = run_ L t.1 t.2 := by
    intro j t ht hj
    have e4 := h.at_ j t ht
    rw [← List.append_assoc]
    rcases h.far i j s t hs ht (fun e => hj e.symm) with hf | hf
    · exact run_far (by omega) (by omega) (by omega) _ _ hf
    · exact run_near (by omega) (by omega) (by omega) _ _ hf
  have hhere : run_ (L.take s.1 ++ (ys ++ L.drop (s.1 + s.2))) s.1 s.2 = ys := by
    rw [← List.append_assoc]
    exact run_here (by omega) (by omega) (by omega) _ (.inl (by omega))
  have hsp := run_split (L.take s.1 ++ (ys ++ L.drop (s.1 + s.2))) s.1 hh s.2 (by omega)
  rw [hhere] at hsp
  have hget : ∀ (j : Nat) (t : Nat × Nat), (segs.set i (s.1, hh) ++ [(s.1 + hh, s.2 - hh)])[j]? = some t → (j = i ∧ t = (s.1, hh)) ∨ (j = segs.length ∧ t = (s.1 + hh, s.2 - hh)) ∨ (j ≠ i ∧ j < segs.length ∧ segs[j]? = some t) := by
    intro j t ht
    rcases Nat.lt_trichotomy j segs.length with hj | hj | hj
    · rw [List.getElem?_append_left (by rw [List.length_set]; exact hj)] at ht
      by_cases hji : j = i
      · subst hji
        rw [List.getElem?_set_self hj] at ht
        exact .inl ⟨rfl, (Option.some.inj ht).symm⟩
      · rw [List.getElem?_set_ne (fun e => hji e.symm)] at ht
        exact .inr (.inr ⟨hji, hj, ht⟩)
    · subst hj
      rw [List.getElem?_append_right (by rw [List.length_set]; omega), List.length_set, Nat.sub_self] at ht
      exact .inr (.inl ⟨rfl, (Option.some.inj ht).symm⟩)
    · rw [List.getElem?_append_right (by rw [List.length_set]; omega), List.length_set] at ht
      rw [List.getElem?_eq_none (by simp; omega)] at ht
      cases ht
  refine ⟨by simp [hlen], ?_, fun j t ht => ?_, fun a b t u ht hu hab => ?_⟩
  · simp only [List.length_append, List.length_take, List.length_drop]; omega
  · rcases hget j t ht with ⟨rfl, rfl⟩ | ⟨rfl, rfl⟩ | ⟨hj, hjl, ht'⟩
    · refine ⟨h1, by simp only []; omega, ?_⟩
      rw [hsp.1, List.map_take, List.getD_eq_getElem?_getD, List.getElem?_append_left (by rw [List.length_set]; omega), List.getElem?_set_self (by omega)]
      rfl
    · refine ⟨by simp only []; omega, by simp only []; omega, ?_⟩
      rw [hsp.2, List.map_drop, List.getD_eq_getElem?_getD, hlen, List.getElem?_append_right (by rw [List.length_set]; omega), List.length_set, Nat.sub_self]
      rfl
    · obtain ⟨f1, f2, f3⟩ := h.at_ j t ht'
      refine ⟨f1, f2, ?_⟩
      rw [hother j t ht' hj, ← f3, List.getD_eq_getElem?_getD, List.getElem?_append_left (by rw [List.length_set]; omega), List.getElem?_set_ne (fun e => hj e.symm), ← List.getD_eq_getElem?_getD]
  · rcases hget a t ht with ⟨ea, rfl⟩ | ⟨ea, rfl⟩ | ⟨ha, hal, ht'⟩
    · rcases hget b u hu with ⟨eb, rfl⟩ | ⟨eb, rfl⟩ | ⟨hb, hbl, hu'⟩
      · omega
      · left; simp only []; omega
      · rcases h.far i b s u hs hu' (fun e => hb e.symm) with hf | hf
        · left; simp only []; omega
        · right; exact hf
    · rcases hget b u hu with ⟨eb, rfl⟩ | ⟨eb, rfl⟩ | ⟨hb, hbl, hu'⟩
      · right; simp only []; omega
      · omega
      · rcases h.far i b s u hs hu' (fun e => hb e.symm) with hf | hf
        · left; simp only []; omega
        · right; simp only []; omega
    · rcases hget b u hu with ⟨eb, rfl⟩ | ⟨eb, rfl⟩ | ⟨hb, hbl, hu'⟩
      · rcases h.far i a s t hs ht' (fun e => ha e.symm) with hf | hf
        · right; simp only []; omega
        · left; exact hf
      · rcases h.far i a s t hs ht' (fun e => ha e.symm) with hf | hf
        · right; simp only []; omega
        · left; simp only []; omega
      · exact h.far a b t u ht' hu' hab
abbrev dBoxI : Kd (List (List Int)) := Kd.slice 22 dRow
/-- the boxes behind the clone W1 -/
structure PalK (w W1 : World) (g cap n : Nat) (post : List Value) (L1 : List (Value × List Int)) (v5 : Value) (bs : List (List (List Int))) (W' : World) (segs : List (Nat × Nat)) (L : List (Value × List Int)) : Prop where
  row : (Kd.raw 1).R 36 W' W1.heap.size (fun k => some k = v5.ownBlock) v5 (segs.map (boxHdr g cap))
  blk : Blk W' g [] post L
  mem : ∀ p ∈ L, p ∈ L1
  segs : Segs n L segs bs
  keep : KeepBut W1 W' g none
  bel : Below w.heap.size w W'
def PalI (w W1 : World) (g cap n : Nat) (post : List Value) (L1 : List (Value × List Int)) (v5 : Value) (bs : List (List (List Int))) (W' : World) : Prop := ∃ segs L, PalK w W1 g cap n post L1 v5 bs W' segs L
/-- what is told of the clone once and for all -/
structure PalC (w W1 : World) (g cap n : Nat) (L1 : List (Value × List Int)) : Prop where
  g0 : w.heap.size ≤ g
  g1 : g < W1.heap.size
  n0 : 1 ≤ n
  n1 : n ≤ 4096
  cap0 : n ≤ cap
  cap1 : cap ≤ 9223372036854775807
  px : ∀ p ∈ L1, isPx p.2 = true
  fk : ∀ p ∈ L1, Kd.FK dRow W1 (fun k => k ≠ g) p.2 [p.1]
section
variable {w W1 W' W2 : World} {g cap n : Nat} {post : List Value} {L1 L : List (Value × List Int)} {v5 : Value} {bs : List (List (List Int))} {segs : List (Nat × Nat)}
theorem PalK.below (h : PalK w W1 g cap n post L1 v5 bs W' segs L) (hb : Below W'.heap.size W' W2) : PalK w W1 g cap n post L1 v5 bs W2 segs L :=
  ⟨Kd.R_step h.row (fun k _ hk => hb.block k hk), ⟨blk_below h.blk.blk hb, h.blk.form⟩, h.mem, h.segs, h.keep.trans (KeepBut.of_below hb g none) (.inl rfl), h.bel.trans (hb.mono h.bel.size)⟩
theorem PalI.below (h : PalI w W1 g cap n post L1 v5 bs W') (hb : Below W'.heap.size W' W2) : PalI w W1 g cap n post L1 v5 bs W2 := by
  obtain ⟨s, L, h⟩ := h
  exact ⟨s, L, h.below hb⟩
theorem PalI.drewN (h : PalI w W1 g cap n post L1 v5 bs W') (m : Nat) : PalI w W1 g cap n post L1 v5 bs (W'.drewN m) := h.below (pw_below_drewN (Below.refl _ _) m)
/-- a store into a number of one's own -/
theorem PalI.num (hc : PalC w W1 g cap n L1) (h : PalI w W1 g cap n post L1 v5 bs W') {gn : Nat} {cells : Array Value} (hn : W'.heap[gn]? = some (.cells cells 3 (0, 0))) (hg : W1.heap.size ≤ gn) (v : Value) : PalI w W1 g cap n post L1 v5 bs (W'.setCell ⟨gn, 0, none⟩ v) := by
  obtain ⟨s, L, h⟩ := h
  have g1 := hc.g1
  have g0 := hc.g0
  refine ⟨s, L, ⟨Kd.R_step h.row (fun k hk _ => ?_), ⟨blk_far h.blk.blk (by simp only []; omega) v, h.blk.form⟩, h.mem, h.segs, ?_, below_set h.bel (by omega)⟩⟩
  · refine Below.heap_setCell W' ⟨gn, 0, none⟩ v k ?_
    rintro rfl
    obtain ⟨cells', h2⟩ := Kd.R_typed h.row _ hk.symm
    rw [hn] at h2
    injection h2 with h2
    injection h2 with _ h2
    exact absurd h2 (by decide)
  · refine ⟨by simpa [World.setCell] using h.keep.1, fun i hi hig hr => ?_⟩
    exact (Below.heap_setCell W' ⟨gn, 0, none⟩ v i (by simp only []; omega)).trans (h.keep.2 i hi hig hr)
theorem PalK.rowK (hc : PalC w W1 g cap n L1) (h : PalK w W1 g cap n post L1 v5 bs W' segs L) {W2 : World} (hb : ∀ k, k ≠ g → k < W1.heap.size → W2.heap[k]? = W1.heap[k]?) : ∀ p ∈ L, dRow.K W2 p.2 [p.1] := fun p hp => Kd.FK_now (Kd.FK_step (hc.fk p (h.mem p hp)) hb)
theorem PalK.rowK' (hc : PalC w W1 g cap n L1) (h : PalK w W1 g cap n post L1 v5 bs W' segs L) : ∀ p ∈ L, dRow.K W' p.2 [p.1] := h.rowK hc (fun k hk hlt => h.keep.2 k hlt hk (by simp))
/-- box i, read -/
theorem PalK.box (hc : PalC w W1 g cap n L1) (h : PalK w W1 g cap n post L1 v5 bs W' segs L) {gb c5 : Nat} (hv : v5 = .slice (some ⟨gb, 0, none⟩) bs.length c5) {i : Nat} (hi : i < bs.length) :
    ∃ s : Nat × Nat, segs[i]? = some s ∧ s.2 = (bs.getD i []).length ∧ s.2 ≤ cap - s.1 ∧ W'.cell? ⟨gb, i, none⟩ = some (.slice (some ⟨g, s.1, none⟩) s.2 (cap - s.1)) ∧ W'.frozen? ⟨gb, i, none⟩ = false ∧ Kd.C dRow W' (some ⟨g, s.1, none⟩) s.2 (bs.getD i []) := by
  obtain ⟨s, hs⟩ := getElem?_of_lt (l := segs) (i := i) (by rw [h.segs.len]; exact hi)
  obtain ⟨e1, e2, e3⟩ := h.segs.at_ i s hs
  have hsz := h.segs.size
  have hcap := hc.cap0
  have hn1 := hc.n1
  have hR := h.row
  rw [hv] at hR
  have hll : (run_ L s.1 s.2).length = s.2 := by unfold run_; rw [List.length_take, List.length_drop]; omega
  have hlen : bs.length = (segs.map (boxHdr g cap)).length := by rw [List.length_map, h.segs.len]
  obtain ⟨c, hcl, hFK, hcc, hfr⟩ := Kd.N_elem (Kd.R_N hR) [] (i : Int) (by omega) (by omega)
  have hk := (Kd.FK_now hFK).1
  rw [Int.toNat_natCast, List.getD_eq_getElem?_getD, List.getElem?_map, hs] at hk
  subst hk
  refine ⟨s, hs, by rw [e3, List.length_map, hll], by omega, ?_, ?_, ?_⟩
  · have := hcc 0 _ rfl
    rwa [show (Kd.raw 1).sz = 1 from rfl, Int.toNat_natCast, Nat.mul_one, Nat.add_zero] at this
  · have := hfr 0
    rwa [show (Kd.raw 1).sz = 1 from rfl, Int.toNat_natCast, Nat.mul_one, Nat.add_zero] at this
  · rw [e3]
    exact blk_C h.blk (h.rowK' hc) s.1 s.2 (by omega) (by omega)
/-- the boxes, as rows that share -/
theorem PalI.N (hc : PalC w W1 g cap n L1) (h : PalI w W1 g cap n post L1 v5 bs W') (hb1 : 1 ≤ bs.length) : Kd.N dBoxI 36 W' w.heap.size (fun _ => True) v5 bs := by
  obtain ⟨segs, L, h⟩ := h
  have g1 := hc.g1
  have g0 := hc.g0
  have hn1 := hc.n1
  have hcap := hc.cap0
  have hsz := h.segs.size
  refine ⟨fun _ _ => trivial, segs.map (boxHdr g cap), by rw [List.length_map, h.segs.len], Kd.R_lower h.row (by omega), fun j x c hx hcj => ?_⟩
  rw [List.getElem?_map] at hcj
  obtain ⟨s, hs, rfl⟩ := Option.map_eq_some_iff.1 hcj
  obtain ⟨e1, e2, e3⟩ := h.segs.at_ j s hs
  have hxe : x = (run_ L s.1 s.2).map Prod.snd := by rw [← e3, List.getD_eq_getElem?_getD, hx]; rfl
  subst hxe
  have hown : ∀ k, v5.ownBlock = some k → W1.heap.size ≤ k := Kd.R_base h.row
  have hll : (run_ L s.1 s.2).length = s.2 := by unfold run_; rw [List.length_take, List.length_drop]; omega
  intro W2 hW2
  have hne : ∀ k, k < W1.heap.size → some k ≠ v5.ownBlock := fun k hk e => by have := hown k e.symm; omega
  have hk1 := h.keep.1
  have hblk2 : Blk W2 g [] post L := ⟨(hW2 g ⟨trivial, hne g g1⟩ (by omega)).trans h.blk.blk, h.blk.form⟩
  refine ⟨some ⟨g, s.1, none⟩, cap - s.1, ?_, by rw [List.length_map, hll]; omega, ?_⟩
  · rw [List.length_map, hll]; rfl
  · rw [List.length_map, hll]
    exact blk_C hblk2 (h.rowK hc (fun k hk hlt => (hW2 k ⟨trivial, hne k hlt⟩ (by omega)).trans (h.keep.2 k hlt hk (by simp)))) s.1 s.2 (by omega) (by omega)
/-- the place where a box is sorted -/
theorem PalK.env (hc : PalC w W1 g cap n L1) (h : PalK w W1 g cap n post L1 v5 bs W' segs L) {s : Nat × Nat} {gn : Nat} {q : Int} (hq0 : 0 ≤ q) (hq1 : q ≤ 2) (hg : W1.heap.size ≤ gn) (hn : W'.heap[gn]? = some (.cells #[.int .i64 q] 3 (0, 0))) : SortEnv W' g gn q (run_ L s.1 s.2) := by
  have g1 := hc.g1
  have hmem : ∀ p ∈ run_ L s.1 s.2, p ∈ L1 := fun p hp => h.mem p (List.mem_of_mem_drop (List.mem_of_mem_take hp))
  exact ⟨hq0, hq1, by omega, hn, fun p hp => hc.px p (hmem p hp), fun p hp => Kd.FK_step (hc.fk p (hmem p hp)) (fun k hk hlt => h.keep.2 k hlt hk (by simp))⟩
/-- behind the sort of box i and the store of its first half -/
theorem PalK.sorted (hc : PalC w W1 g cap n L1) (h : PalK w W1 g cap n post L1 v5 bs W' segs L) {gb c5 : Nat} (hv : v5 = .slice (some ⟨gb, 0, none⟩) bs.length c5) {i : Nat} {s : Nat × Nat} (hi : i < bs.length) (hs : segs[i]? = some s) {W3 : World} (hsw : Sw W' W3 g) {ys : List (Value × List Int)} {q : Int}
    (hbk : Blk W3 g ((L.take s.1).map Prod.fst) ((L.drop (s.1 + s.2)).map Prod.fst ++ post) ys) (hal : Alike (keyQ q) (run_ L s.1 s.2) ys) (hh : Nat) (h1 : 1 ≤ hh) (h2 : hh < s.2) {v6 : Value} {W4 W5 : World} (hW4 : W4 = W3.setCell ⟨gb, i, none⟩ (.slice (some ⟨g, s.1, none⟩) hh (cap - s.1)))
    (hR : (Kd.raw 1).R 36 W5 W1.heap.size (fun _ => True) v6 ((segs.map (boxHdr g cap)).set i [.slice (some ⟨g, s.1, none⟩) hh (cap - s.1)] ++ [boxHdr g cap (s.1 + hh, s.2 - hh)])) (hgr : W4.grownBy W5 (some gb)) :
    PalI w W1 g cap n post L1 v6 (bs.set i ((ys.map Prod.snd).take hh) ++ [(ys.map Prod.snd).drop hh]) W5 := by
  have g1 := hc.g1
  have g0 := hc.g0
  obtain ⟨e1, e2, e3⟩ := h.segs.at_ i s hs
  have hsz := h.segs.size
  have hll : (run_ L s.1 s.2).length = s.2 := by unfold run_; rw [List.length_take, List.length_drop]; omega
  have hgb : W1.heap.size ≤ gb := Kd.R_base h.row gb (by rw [hv]; rfl)
  have hb4 : Blk W4 g [] post (L.take s.1 ++ (ys ++ L.drop (s.1 + s.2))) := by
    have := hbk.join (fun p hp => h.blk.form p (List.mem_of_mem_take hp)) (fun p hp => h.blk.form p (List.mem_of_mem_drop hp))
    rw [hW4]
    exact ⟨blk_far this.blk (by simp only []; omega) _, this.form⟩
  have hk4 : KeepBut W1 W4 g none := by
    rw [hW4]
    have hk3 := h.keep.trans hsw.keep (.inl rfl)
    refine ⟨by simpa [World.setCell] using hk3.1, fun i' hi' hg' hr => ?_⟩
    exact (Below.heap_setCell W3 ⟨gb, i, none⟩ _ i' (by simp only []; omega)).trans (hk3.2 i' hi' hg' hr)
  have hbel4 : Below w.heap.size w W4 := by
    rw [hW4]
    exact below_set (hsw.below h.bel g0) (by omega)
  refine ⟨_, _, ⟨Kd.raw_tight (ok := fun _ => True) ?_, ⟨blk_grown hb4.blk hgr (by intro e; injection e with e; omega), hb4.form⟩, ?_, h.segs.part i s hs ys (hal.1.trans hll) hh h1 h2, hk4.trans (KeepBut.of_grown hgr g) (.inr ⟨gb, rfl, hgb⟩), pw_below_grown hbel4 (some gb) hbel4.size hgr (fun k hk => by injection hk with hk; omega)⟩⟩
  · rw [List.map_append, List.map_set]
    exact hR
  · intro p hp
    rcases List.mem_append.1 hp with hp | hp
    · exact h.mem p (List.mem_of_mem_take hp)
    · rcases List.mem_append.1 hp with hp | hp
      · exact h.mem p (List.mem_of_mem_drop (List.mem_of_mem_take ((hal.mem p).1 hp)))
      · exact h.mem p (List.mem_of_mem_drop hp)
end
theorem PalI.start {w W1 W2 : World} {g cap n : Nat} {post : List Value} {L1 : List (Value × List Int)} {l0 : List (List Int)} {v5 : Value} (hc : PalC w W1 g cap n L1) (hblk : Blk W1 g [] post L1) (hs : L1.map Prod.snd = l0) (hn : n = l0.length)
    (hR : (Kd.raw 1).R 36 W2 W1.heap.size (fun _ => True) v5 [boxHdr g cap (0, n)]) (hb : Below W1.heap.size W1 W2) (hw : Below w.heap.size w W1) : PalI w W1 g cap n post L1 v5 [l0] W2 := by
  have hl : L1.length = n := by rw [hn, ← hs, List.length_map]
  have hn0 := hc.n0
  refine ⟨[(0, n)], L1, ⟨Kd.raw_tight (ok := fun _ => True) hR, ⟨blk_below hblk.blk hb, hblk.form⟩, fun p hp => hp, ⟨rfl, hl, fun j s hj => ?_, fun i j s t hi hj hij => ?_⟩, KeepBut.of_below hb g none, hw.trans (hb.mono hw.size)⟩⟩
  · rcases j with _ | j
    · obtain rfl : (0, n) = s := by simpa using hj
      refine ⟨hn0, by simp, ?_⟩
      show l0 = (run_ L1 0 n).map Prod.snd
      unfold run_
      rw [List.drop_zero, List.take_of_length_le (by omega), hs]
    · simp at hj
  · rcases i with _ | i
    · rcases j with _ | j
      · omega
      · simp at hj
    · simp at hi
theorem hdr_rep {W : World} {base : Nat} {okp : Nat → Prop} (g cap : Nat) (s : Nat × Nat) : Reps ((Kd.raw 1).M W base okp) 1 [boxHdr g cap s] [.slice (some ⟨g, s.1, none⟩) s.2 (cap - s.1)] :=
  (Reps.none _ _).snoc ⟨rfl, rfl, fun u hu => by rw [List.mem_singleton.1 hu]; rfl⟩ rfl
theorem PalK.rowSet {w W1 W' : World} {g cap n : Nat} {post : List Value} {L1 L : List (Value × List Int)} {v5 : Value} {bs : List (List (List Int))} {segs : List (Nat × Nat)} (hc : PalC w W1 g cap n L1) (h : PalK w W1 g cap n post L1 v5 bs W' segs L) {gb c5 : Nat} (hv : v5 = .slice (some ⟨gb, 0, none⟩) bs.length c5) {i : Nat} (hi : i < bs.length) {s : Nat × Nat} (hs : segs[i]? = some s) {W3 : World} (hsw : Sw W' W3 g) (hh cc : Nat) (A : Option Addr) :
    (Kd.raw 1).R 36 (W3.setCell ⟨gb, i, none⟩ (.slice A hh cc)) W1.heap.size (fun _ => True) (.slice (some ⟨gb, 0, none⟩) bs.length c5) ((segs.map (boxHdr g cap)).set i [.slice A hh cc]) := by
  subst hv
  have g1 := hc.g1
  have hgb : W1.heap.size ≤ gb := Kd.R_base h.row gb rfl
  have hR : (Kd.raw 1).R 36 W3 W1.heap.size (fun k => some k = (Value.slice (some ⟨gb, 0, none⟩) bs.length c5).ownBlock) (.slice (some ⟨gb, 0, none⟩) bs.length c5) (segs.map (boxHdr g cap)) :=
    Kd.R_step h.row (fun k hk _ => hsw.block k (by
      have hk2 : k = gb := by injection hk
      omega))
  have hlen : bs.length = (segs.map (boxHdr g cap)).length := by rw [List.length_map, h.segs.len]
  obtain ⟨c, hcl, hFK, hcc, hfr⟩ := Kd.N_elem (Kd.R_N hR) [] (i : Int) (by omega) (by omega)
  obtain ⟨u, rfl⟩ := List.length_eq_one_iff.1 hcl
  have := (Kd.R_seg (Kd.raw_any hR) (i : Int) (by omega) (by omega) (c := [u]) (seg := [.slice A hh cc]) (j := 0) (x' := [.slice A hh cc]) (okp := fun _ => False) hcl hcc (by show 0 + 1 ≤ 1; omega) ⟨rfl, rfl, fun u hu => by rw [List.mem_singleton.1 hu]; rfl⟩ (fun _ hk => hk.elim)).1
  rw [show (Kd.raw 1).sz = 1 from rfl, Int.toNat_natCast, Nat.mul_one, Nat.add_zero] at this
  exact this
end Go.Proofs.Ytcjjmfpkhhdmlaa.G

namespace Go.Proofs.Ytcjjmfpkhhdmlaa.G
open Go.RowKit Go.Proofs.YtcjjmfpkhhdmlaaW.PrintWords Go.Proofs.YtcjjmfpkhhdmlaaW.PrintLast Go.Proofs.YtcjjmfpkhhdmlaaW.PrintMore
attribute [local go_sem] max2_int min2_int max_two min_two max_three min_three max_four min_four   -- for this text's walks alone
--import Derived.WalkSpells
/-! a slice against nil -/
theorem eql_slice_nil {P : Program} (w : World) (t e : TypeId) (a : Option Addr) (n c n' c' : Nat) (h : P.underlying t = some (.slice e)) :
    (binOp .eql t (.slice a n c) (.slice none n' c')).run P w = .ok (.bool a.isNone) w := by
  simp only [binOp]
  simp [Op.equal, Op.maxDepth, Lib.run_equalIn_slice_nil w 9999 t e a n c n' c' h]
end Go.Proofs.Ytcjjmfpkhhdmlaa.G

namespace Go.Proofs.Ytcjjmfpkhhdmlaa.G
open Go.RowKit Go.Proofs.YtcjjmfpkhhdmlaaW.PrintWords Go.Proofs.YtcjjmfpkhhdmlaaW.PrintLast Go.Proofs.YtcjjmfpkhhdmlaaW.PrintMore
attribute [local go_sem] max2_int min2_int max_two min_two max_three min_three max_four min_four   -- for this text's walks alone
/-! merging in place, in general -/
--import Derived.Deep.CutBlock
--import Derived.Deep.CutRange
--import Derived.Deep.LoopGhost
--import Derived.Deep.DeepCutAuto
/-- the search for the place to cut: where it may begin and end -/
def CutRange_ (a m b mid lo hi : Nat) : Prop := a ≤ lo ∧ lo ≤ hi ∧ hi ≤ m ∧ hi ≤ mid ∧ mid + m - lo ≤ b ∧ m ≤ mid + m - hi ∧ (lo = a ∨ mid + m - lo = b) ∧ (hi = m ∨ mid + m - hi = m)
theorem hbk_env {W W' : World} {g gn : Nat} {q : Int} {P A A1 A2 B B1 B2 R : List (Value × List Int)} (h : SortEnv W g gn q (P ++ (A ++ (B ++ R)))) (hs : Sw W W' g) (hab : A = A1 ++ A2 ∧ B = B1 ++ B2) : SortEnv W' g gn q ((P ++ A1) ++ (B1 ++ (A2 ++ (B2 ++ R)))) :=
  h.step hs (by
    rw [hab.1, hab.2]
    intro p hp
    simp only [List.mem_append] at hp ⊢
    rcases hp with (h | h) | h | h | h | h <;> simp [h])
theorem hbk_env2 {W W' : World} {g gn : Nat} {q : Int} {P A A1 A2 B B1 B2 C1 R : List (Value × List Int)} (h : SortEnv W g gn q (P ++ (A ++ (B ++ R)))) (hs : Sw W W' g) (hab : A = A1 ++ A2 ∧ B = B1 ++ B2) (hc : Alike (keyQ q) (A1 ++ B1) C1) : SortEnv W' g gn q ((P ++ C1) ++ (A2 ++ (B2 ++ R))) :=
  h.step hs (by
    rw [hab.1, hab.2]
    intro p hp
    simp only [List.mem_append] at hp ⊢
    rcases hp with (h | h) | h | h | h
    · simp [h]
    · have := (hc.mem p).1 h
      rcases List.mem_append.1 this with h | h <;> simp [h]
    · simp [h]
    · simp [h]
    · simp [h])
set_option maxRecDepth 100000 in
set_option maxHeartbeats 8000000 in
theorem sym_gen (len c gn g : Nat) (q : Int) (pre post : List Value) (N : Nat) (ih : MergeCalls len c gn g q pre post N) (hc : len ≤ c) (hl : len ≤ 1000000) (hcm : c ≤ 9223372036854775807) (W : World) (P A B R : List (Value × List Int)) (a m b : Nat) (hE : SortEnv W g gn q (P ++ (A ++ (B ++ R)))) (h : Blk W g pre post (P ++ (A ++ (B ++ R)))) (hlen : len = (P ++ (A ++ (B ++ R))).length) (hP : P.length = a) (hm : a + A.length = m) (hb : m + B.length = b) (hA1 : 2 ≤ A.length) (hB1 : 2 ≤ B.length) (hN : A.length + B.length ≤ N + 1) (hA : Sorted_ (keyQ q) A) (hB : Sorted_ (keyQ q) B) :
    Calls Try.prog 176 #[.slice (some ⟨g, pre.length, none⟩) len c, .int .i64 a, .int .i64 m, .int .i64 b, .func (.func 128) #[] #[.pointer (some ⟨gn, 0, none⟩)]] W fun e W' => e = .returned (.tuple #[]) ∧ Sw W W' g ∧ ∃ C, Blk W' g pre post (P ++ (C ++ R)) ∧ Sorted_ (keyQ q) C ∧ Alike (keyQ q) (A ++ B) C := by
  have IH := Aside0.mk ih
  have HE := Aside0.mk hE
  have HH := Aside0.mk h
  have HLEN := Aside0.mk hlen
  have HP := Aside0.mk hP
  have HM := Aside0.mk hm
  have HBL := Aside0.mk hb
  have HA := Aside0.mk hA
  have HB := Aside0.mk hB
  have HNN := Aside0.mk hN
  have hbl : b ≤ len := by rw [hlen]; simp only [List.length_append]; omega
  have ham : a + 1 < m := by omega
  have hmb : m + 1 < b := by omega
  obtain ⟨mid, hmid⟩ : ∃ mid, mid = (a + b) / 2 := ⟨_, rfl⟩
  have e1 : ((m : Int) - a == 1) = false := by rw [beq_eq_false_iff_ne]; omega
  have e2 : ¬ (m : Int) - a = 1 := by omega
  have e3 : ((b : Int) - m == 1) = false := by rw [beq_eq_false_iff_ne]; omega
  have e4 : ¬ (b : Int) - m = 1 := by omega
  have mm : Aside0 (((a : Int) + b) / 2 = (mid : Nat)) := ⟨by rw [hmid]; omega⟩
  have hmidb : mid < b := by omega
  have hmida : a < mid := by omega
  have hcr : ∃ lo hi, CutRange_ a m b mid lo hi ∧ (mid < m → lo = mid + m - b ∧ hi = mid) ∧ (¬ mid < m → lo = a ∧ hi = m) := by
    by_cases hc : mid < m
    · exact ⟨mid + m - b, mid, by unfold CutRange_; omega, fun _ => ⟨rfl, rfl⟩, fun h => absurd hc h⟩
    · exact ⟨a, m, by unfold CutRange_; omega, fun h => absurd h hc, fun _ => ⟨rfl, rfl⟩⟩
  obtain ⟨lo, hi, hcr, hcr1, hcr2⟩ := hcr
  have HCR := Aside0.mk hcr
  have HCR1 := Aside0.mk hcr1
  have HCR2 := Aside0.mk hcr2
  obtain ⟨nn, hnn⟩ : ∃ nn, nn = mid + m := ⟨_, rfl⟩
  have n1 : Aside0 ((mid : Int) + m = (nn : Nat)) := ⟨by omega⟩
  obtain ⟨pp, hpp⟩ : ∃ pp, pp = nn - 1 := ⟨_, rfl⟩
  have n2 : Aside0 ((nn : Int) - 1 = (pp : Nat)) := ⟨by omega⟩
  have HNM := Aside0.mk hnn
  have HPM := Aside0.mk hpp
  have hnl : nn ≤ 2000000 := by omega
  have hbn : mid < m → b ≤ nn := by omega
  clear ih hE h hlen hP hm hb hA hB hA1 hB1 hN hmid hcr hcr1 hcr2 hnn hpp
  have hst : Aside0 (mid < m → (nn : Int) - b = (lo : Nat) ∧ (mid : Int) = (hi : Nat)) := ⟨fun h => by have h1 := HCR1.out h; have h3 := HNM.out; have := hbn h; omega⟩
  have hst2 : Aside0 (¬ mid < m → (a : Int) = (lo : Nat) ∧ (m : Int) = (hi : Nat)) := ⟨fun h => by have h1 := HCR2.out h; omega⟩
  have hpl : pp < 2000000 := by have := HPM.out; omega
  have hlm : lo ≤ hi := HCR.out.2.1
  clear hbn HCR1 HCR2
  go_enter Try.func176, Try.ntmps176
  go_upto_region 25 with (fail)
  rw [mm.out]
  go_upto_region 26 with (fail)
  rw [n1.out]
  go_upto_region 27 with (fail)
  clear e1 e2 e3 e4
  go_cut [140] (fun v wx => v = .bool (decide (mid < m)) ∧ W = wx)
  case first => as_aux_lemma =>
    by_cases hmd : mid < m
    · have e : Aside0 (decide (mid < m) = true) := ⟨decide_eq_true hmd⟩
      go_wp2
      go_meet
      case rel => exact ⟨by rw [e.out], rfl⟩
    · have e : Aside0 (decide (mid < m) = false) := ⟨decide_eq_false hmd⟩
      go_wp2
      go_meet
      case rel => exact ⟨by rw [e.out], rfl⟩
  case rest =>
  obtain ⟨rfl, rfl⟩ := hcut
  obtain ⟨t0, ht0⟩ : ∃ t0, t0 = decide (mid < m) := ⟨_, rfl⟩
  rw [← ht0]
  have HT0 := Aside0.mk ht0
  clear ht0
  go_upto_if 140 with (fail)
  go_cut [20, 21] (fun v20 v21 wx => v20 = .int .i64 (lo : Nat) ∧ v21 = .int .i64 (hi : Nat) ∧ W = wx)
  case first => as_aux_lemma =>
    cases t0 with
    | true =>
      have hq := hst.out (of_decide_eq_true HT0.out.symm)
      have HQ := Aside0.mk hq
      clear hq
      go_wp2
      go_meet
      case rel => exact ⟨by rw [HQ.out.1], by rw [HQ.out.2], rfl⟩
    | false =>
      have hq := hst2.out (of_decide_eq_false HT0.out.symm)
      have HQ := Aside0.mk hq
      clear hq
      go_wp2
      go_meet
      case rel => exact ⟨by rw [HQ.out.1], by rw [HQ.out.2], rfl⟩
  case rest =>
    obtain ⟨rfl, rfl, rfl⟩ := hcut
    clear HT0 hst hst2
    go_wp2
    rw [n2.out]
    go_loopw [20, 21] (fun v20 v21 w' => ∃ s r : Nat, v20 = .int .i64 s ∧ v21 = .int .i64 r ∧ lo ≤ s ∧ s ≤ r ∧ r ≤ hi ∧ Aside0 (s = lo ∨ ∀ x y, (P ++ (A ++ (B ++ R)))[s - 1]? = some x → (P ++ (A ++ (B ++ R)))[nn - s]? = some y → keyQ q x ≤ keyQ q y) ∧ Aside0 (r = hi ∨ ∀ x y, (P ++ (A ++ (B ++ R)))[r]? = some x → (P ++ (A ++ (B ++ R)))[nn - r - 1]? = some y → keyQ q y < keyQ q x) ∧ Aside0 (Blk w' g pre post (P ++ (A ++ (B ++ R)))) ∧ Aside0 (Sw W w' g)) (fun v20 v21 w' => (intOf v21).toNat - (intOf v20).toNat)
    case atStart => exact ⟨lo, hi, rfl, rfl, by omega, by omega, by omega, ⟨.inl rfl⟩, ⟨.inl rfl⟩, HH, ⟨Sw.refl _ _⟩⟩
    case round =>
      obtain ⟨s, r, rfl, rfl, hs0, hsr, hr1, HI, HJ, HW, HS⟩ := hrel
      clear HH
      by_cases hlt : s < r
      · obtain ⟨hh1, hh2⟩ := half_range s r hlt
        obtain ⟨k, hk⟩ : ∃ k, k = (s + r) / 2 := ⟨_, rfl⟩
        have HK := Aside0.mk hk
        rw [← hk] at hh1 hh2
        have hfacts : k < len ∧ k ≤ pp ∧ pp - k < len ∧ nn - (k + 1) = pp - k ∧ nn - k - 1 = pp - k ∧ hi ≤ 1000000 := by
          have h1 := HCR.out
          have h2 := HNM.out
          have h3 := HPM.out
          unfold CutRange_ at h1
          omega
        obtain ⟨hkl, hkp, hpkl, hq1, hq2, hhi⟩ := hfacts
        obtain ⟨x, hx1⟩ := getElem?_of_lt (l := P ++ (A ++ (B ++ R))) (i := k) (by rw [← HLEN.out]; exact hkl)
        obtain ⟨y, hy1⟩ := getElem?_of_lt (l := P ++ (A ++ (B ++ R))) (i := pp - k) (by rw [← HLEN.out]; exact hpkl)
        have hxm := List.mem_of_getElem? hx1
        have hym := List.mem_of_getElem? hy1
        obtain ⟨Ap, np, cp, ep⟩ := HW.out.form x hxm
        obtain ⟨Aq, nq, cq, eq⟩ := HW.out.form y hym
        obtain ⟨hx, hxf⟩ := HW.out.cell hx1
        obtain ⟨hy, hyf⟩ := HW.out.cell hy1
        have hcmp := fun W' (hs : Sw wr W' g) => cmp_calls W' g gn q _ (HE.out.step (HS.out.trans hs) (fun p hp => hp)) y x hym hxm
        rw [ep, eq] at hcmp
        have HC := Aside0.mk hcmp
        rw [ep] at hx
        rw [eq] at hy
        have HX := Aside0.mk hx1
        have HY := Aside0.mk hy1
        have HQ1 := Aside0.mk hq1
        have HQ2 := Aside0.mk hq2
        clear hx1 hxm hym ep eq hcmp hy1 hk hq1 hq2
        have kk : Aside0 (((s : Int) + r) / 2 = (k : Nat)) := ⟨by rw [HK.out]; omega⟩
        obtain ⟨kx, hkx⟩ : ∃ kx, kx = keyQ q x := ⟨_, rfl⟩
        obtain ⟨ky, hky⟩ : ∃ ky, ky = keyQ q y := ⟨_, rfl⟩
        have HKX := Aside0.mk hkx
        have HKY := Aside0.mk hky
        have hkk : rd y.2 q = ky ∧ rd x.2 q = kx := ⟨hky.symm, hkx.symm⟩
        rw [hkk.1, hkk.2] at HC
        clear hkx hky hkk
        by_cases hk : ky < kx
        · have hcv := cmpI_lt hk
          obtain ⟨rr, hr⟩ : ∃ rr, rr = cmpI ky kx := ⟨_, rfl⟩
          rw [← hr] at HC hcv
          have HJ2 : Aside0 (k = hi ∨ ∀ x y, (P ++ (A ++ (B ++ R)))[k]? = some x → (P ++ (A ++ (B ++ R)))[nn - k - 1]? = some y → keyQ q y < keyQ q x) := ⟨.inr (fun u v hu hv => by rw [HX.out] at hu; rw [HQ2.out, HY.out] at hv; rw [← Option.some.inj hu, ← Option.some.inj hv, ← HKX.out, ← HKY.out]; exact hk)⟩
          clear hr hk
          go_wp2
          rw [kk.out]
          go_quiet ((exact Calls.quiet_of (HC.out _ ((Sw.refl _ _).drewN _))))
          go_wp2
          go_roundw
          case rel => exact ⟨s, k, rfl, rfl, hs0, by omega, by omega, HI, HJ2, ⟨HW.out.drewN _⟩, ⟨HS.out.drewN _⟩⟩
          case measure => simp [intOf]; omega
        · have hcv := cmpI_ge hk
          obtain ⟨rr, hr⟩ : ∃ rr, rr = cmpI ky kx := ⟨_, rfl⟩
          rw [← hr] at HC hcv
          have HI2 : Aside0 (k + 1 = lo ∨ ∀ x y, (P ++ (A ++ (B ++ R)))[k + 1 - 1]? = some x → (P ++ (A ++ (B ++ R)))[nn - (k + 1)]? = some y → keyQ q x ≤ keyQ q y) := ⟨.inr (fun u v hu hv => by rw [Nat.add_sub_cancel, HX.out] at hu; rw [HQ1.out, HY.out] at hv; rw [← Option.some.inj hu, ← Option.some.inj hv, ← HKX.out, ← HKY.out]; exact Int.not_lt.1 hk)⟩
          have hcv2 : decide (rr < 0) = false := by simpa using hcv
          clear hr hk
          go_wp2
          rw [kk.out]
          go_quiet ((exact Calls.quiet_of (HC.out _ ((Sw.refl _ _).drewN _))))
          go_wp2
          go_roundw
          case rel => exact ⟨k + 1, r, by go_num, rfl, by omega, by omega, hr1, HI2, HJ, ⟨HW.out.drewN _⟩, ⟨HS.out.drewN _⟩⟩
          case measure => simp [intOf]; omega
      · obtain rfl : s = r := by omega
        obtain ⟨fi, hfi⟩ : ∃ fi, fi = nn - s := ⟨_, rfl⟩
        have hfacts : a ≤ s ∧ s ≤ m ∧ s ≤ mid ∧ m ≤ fi ∧ fi ≤ b ∧ s ≤ nn ∧ s + fi = mid + m ∧ (s = lo → s = a ∨ fi = b) ∧ (s = hi → s = m ∨ fi = m) := by
          have h1 := HCR.out
          have h2 := HNM.out
          unfold CutRange_ at h1
          omega
        obtain ⟨f1, f2, f3, f4, f5, f6, f7, f8, f9⟩ := hfacts
        have n3 : Aside0 ((nn : Int) - s = (fi : Nat)) := ⟨by omega⟩
        have hlo' : s = a ∨ fi = b ∨ ∀ x y, (P ++ (A ++ (B ++ R)))[s - 1]? = some x → (P ++ (A ++ (B ++ R)))[fi]? = some y → keyQ q x ≤ keyQ q y := by
          rcases HI.out with h | h
          · rcases f8 h with h | h
            · exact .inl h
            · exact .inr (.inl h)
          · rw [hfi]; exact .inr (.inr h)
        have hhi' : s = m ∨ fi = m ∨ ∀ x y, (P ++ (A ++ (B ++ R)))[s]? = some x → (P ++ (A ++ (B ++ R)))[fi - 1]? = some y → keyQ q y < keyQ q x := by
          rcases HJ.out with h | h
          · rcases f9 h with h | h
            · exact .inl h
            · exact .inr (.inl h)
          · rw [hfi]; exact .inr (.inr h)
        have hcut := cut_ok (key := keyQ q) (p := P) (s := R) HA.out HB.out s fi (by rw [HP.out]; exact f1) (by rw [HP.out, HM.out]; exact f2) (by rw [HP.out, HM.out]; exact f4) (by rw [HP.out, HM.out, HBL.out]; exact f5) (by rw [HP.out, HM.out, HBL.out]; exact hlo') (by rw [HP.out, HM.out]; exact hhi')
        obtain ⟨A1, A2, B1, B2, hAA, hBB, hA1l, hB1l, hc1, hc2⟩ := hcut
        rw [HP.out] at hA1l
        rw [HP.out, HM.out] at hB1l
        have hA2l : s + A2.length = m := by have := HM.out; rw [hAA, List.length_append] at this; omega
        have hB2l : fi + B2.length = b := by have := HBL.out; rw [hBB, List.length_append] at this; omega
        have eall : P ++ (A ++ (B ++ R)) = (P ++ A1) ++ (A2 ++ (B1 ++ (B2 ++ R))) := by rw [hAA, hBB]; simp
        have hll : len = ((P ++ A1) ++ (A2 ++ (B1 ++ (B2 ++ R)))).length := by rw [← eall]; exact HLEN.out
        have hW1 := HW.out
        rw [eall] at hW1
        have HW1 := Aside0.mk hW1
        have HLL := Aside0.mk hll
        have HL4 := Aside0.mk (And.intro hA1l (And.intro hB1l (And.intro hA2l hB2l)))
        have HAB := Aside0.mk (And.intro hAA hBB)
        have HC12 := Aside0.mk (And.intro hc1 hc2)
        have hfm : fi + s = mid + m := by omega
        have hE1 := (HE.out.step (ys := (P ++ A1) ++ (B1 ++ (A2 ++ (B2 ++ R)))) HS.out (by
          rw [eall]
          intro p hp
          simp only [List.mem_append] at hp ⊢
          rcases hp with (h | h) | h | h | h | h <;> simp [h]))
        have HE1 := Aside0.mk hE1
        clear hE1 hW1 hll eall hA1l hB1l hA2l hB2l hAA hBB hc1 hc2 hlo' hhi' f8 f9 hfi HI HJ HW
        obtain ⟨t1, ht1⟩ : ∃ t1, t1 = (decide (s < m) && decide (m < fi)) := ⟨_, rfl⟩
        obtain ⟨t2, ht2⟩ : ∃ t2, t2 = (decide (a < s) && decide (s < mid)) := ⟨_, rfl⟩
        obtain ⟨t3, ht3⟩ : ∃ t3, t3 = (decide (mid < fi) && decide (fi < b)) := ⟨_, rfl⟩
        have HT1 := Aside0.mk ht1
        have HT2 := Aside0.mk ht2
        have HT3 := Aside0.mk ht3
        clear ht1 ht2 ht3
        go_upto_region 39 with (fail)
        rw [n3.out]
        go_cut [185] (fun v wx => v = .bool t1 ∧ wr = wx)
        case first => as_aux_lemma =>
          by_cases hsm : s < m
          · by_cases hmf : m < fi
            · have e : Aside0 (t1 = true) := ⟨by rw [HT1.out]; simp [hsm, hmf]⟩
              go_wp2
              go_meet
              case rel => exact ⟨by rw [e.out], rfl⟩
            · have e : Aside0 (t1 = false) := ⟨by rw [HT1.out]; simp [hmf]⟩
              go_wp2
              go_meet
              case rel => exact ⟨by rw [e.out], rfl⟩
          · have e : Aside0 (t1 = false) := ⟨by rw [HT1.out]; simp [hsm]⟩
            go_wp2
            go_meet
            case rel => exact ⟨by rw [e.out], rfl⟩
        case rest =>
        obtain ⟨rfl, rfl⟩ := hcut
        go_upto_if 185 with (fail)
        go_cut [] (fun wx => Aside0 (Blk wx g pre post ((P ++ A1) ++ (B1 ++ (A2 ++ (B2 ++ R))))) ∧ Aside0 (Sw W wx g))
        case first => as_aux_lemma =>
          cases t1 with
          | true =>
            have hsf : s < m ∧ m < fi := by have := HT1.out; simpa using this.symm
            have hrc := rotate_calls wr g pre post (P ++ A1) A2 B1 (B2 ++ R) s m fi c len (.func (.func 128) #[] #[.pointer (some ⟨gn, 0, none⟩)]) HW1.out HLL.out hc hl hcm (by rw [List.length_append, HP.out]; exact HL4.out.1) HL4.out.2.2.1 HL4.out.2.1 (by have := HL4.out; omega) (by have := HL4.out; omega)
            have HRC := Aside0.mk hrc
            clear hrc hsf
            go_wp2_with fail
            refine HRC.out.mono ?_
            rintro e_ w1 ⟨rfl, hs1, hbk1⟩
            have HS1 := Aside0.mk (HS.out.trans hs1)
            have HBK1 := Aside0.mk hbk1
            clear hs1 hbk1
            go_wp2
            go_meet
            case rel => exact ⟨HBK1, HS1⟩
          | false =>
            have hz : A2 = [] ∨ B1 = [] := by
              have := HT1.out
              have h4 := HL4.out
              by_cases hsm : s < m
              · exact .inr (List.length_eq_zero_iff.1 (by simp [hsm] at this; omega))
              · exact .inl (List.length_eq_zero_iff.1 (by omega))
            have HBK1 : Aside0 (Blk wr g pre post ((P ++ A1) ++ (B1 ++ (A2 ++ (B2 ++ R))))) := ⟨by have := HW1.out; rcases hz with hz | hz <;> (rw [hz] at this ⊢; simpa using this)⟩
            clear hz
            go_wp2
            go_meet
            case rel => exact ⟨HBK1, HS⟩
        case rest =>
        obtain ⟨HBK1, HS1⟩ := hcut
        have hNN := HNN.out
        have hlen := HL4.out
        have hab := HAB.out
        have hA12 : A1.length + A2.length = A.length := by rw [hab.1, List.length_append]
        have hB12 : B1.length + B2.length = B.length := by rw [hab.2, List.length_append]
        have hPl := HP.out
        have sA : Sorted_ (keyQ q) A1 ∧ Sorted_ (keyQ q) A2 := by have := HA.out; rw [hab.1] at this; exact ⟨this.left, this.right⟩
        have sB : Sorted_ (keyQ q) B1 ∧ Sorted_ (keyQ q) B2 := by have := HB.out; rw [hab.2] at this; exact ⟨this.left, this.right⟩
        have SA := Aside0.mk sA
        have SB := Aside0.mk sB
        have hE2 := hbk_env HE.out HS1.out HAB.out
        have hnat : Aside0 (A1.length + B1.length ≤ N ∧ A2.length + B2.length ≤ N ∧ s + B1.length = mid ∧ mid + A2.length = fi ∧ (¬ a < s → A1 = []) ∧ (¬ s < mid → B1 = []) ∧ (¬ mid < fi → A2 = []) ∧ (¬ fi < b → B2 = []) ∧ (a < s → 1 ≤ A1.length) ∧ (s < mid → 1 ≤ B1.length) ∧ (mid < fi → 1 ≤ A2.length) ∧ (fi < b → 1 ≤ B2.length)) := ⟨by
          refine ⟨by omega, by omega, by omega, by omega, fun h => List.length_eq_zero_iff.1 (by omega), fun h => List.length_eq_zero_iff.1 (by omega), fun h => List.length_eq_zero_iff.1 (by omega), fun h => List.length_eq_zero_iff.1 (by omega), fun h => by omega, fun h => by omega, fun h => by omega, fun h => by omega⟩⟩
        have HE2 := Aside0.mk hE2
        have HLB : Aside0 (len = (P ++ (A1 ++ (B1 ++ (A2 ++ (B2 ++ R))))).length) := ⟨by rw [HLL.out]; simp only [List.length_append]; omega⟩
        clear hNN hlen hab hA12 hB12 hPl sA sB hE2
        by_cases has : a < s
        · by_cases hsm2 : s < mid
          · have hih := IH.out wc P A1 B1 (A2 ++ (B2 ++ R)) a s mid hnat.out.1 (by have := HE2.out; simpa [List.append_assoc] using this) (by have := HBK1.out; simpa [List.append_assoc] using this) HLB.out HP.out HL4.out.1 hnat.out.2.2.1 (hnat.out.2.2.2.2.2.2.2.2.1 has) (hnat.out.2.2.2.2.2.2.2.2.2.1 hsm2) SA.out.1 SB.out.1
            have HIH := Aside0.mk hih
            clear hih
            go_wp2_with fail
            refine HIH.out.mono ?_
            rintro e_ w2 ⟨rfl, hs2, C1, hbk2, hso1, hal1⟩
            have HS2 := Aside0.mk (HS1.out.trans hs2)
            have HBK2 := Aside0.mk hbk2
            have HC1 := Aside0.mk (And.intro hso1 hal1)
            clear hs2 hbk2 hso1 hal1
            have HE3 := Aside0.mk (hbk_env2 HE.out HS2.out HAB.out HC1.out.2)
            have hmidl : Aside0 ((P ++ C1).length = mid) := ⟨by rw [List.length_append, HC1.out.2.1, List.length_append, HP.out]; have := HL4.out; have := hnat.out.2.2.1; omega⟩
            have hlen3 : Aside0 (len = ((P ++ C1) ++ (A2 ++ (B2 ++ R))).length) := ⟨by rw [HLB.out]; have := HC1.out.2.1; simp only [List.length_append] at this ⊢; omega⟩
            have HMG : ∀ C2, Sorted_ (keyQ q) C2 → Alike (keyQ q) (A2 ++ B2) C2 → Sorted_ (keyQ q) (C1 ++ C2) ∧ Alike (keyQ q) (A ++ B) (C1 ++ C2) := by
              intro C2 h1 h2
              have hA := HA.out
              have hB := HB.out
              rw [HAB.out.1] at hA ⊢
              rw [HAB.out.2] at hB ⊢
              exact merge_cut hA hB HC12.out.1 HC12.out.2 HC1.out.1 HC1.out.2 h1 h2
            have HMG2 := Aside0.mk HMG
            clear HMG
            by_cases hmf : mid < fi
            · by_cases hfb : fi < b
              · have hih := IH.out w2 (P ++ C1) A2 B2 R mid fi b hnat.out.2.1 HE3.out (by have := HBK2.out; rw [List.append_assoc]; exact this) hlen3.out hmidl.out hnat.out.2.2.2.1 HL4.out.2.2.2 (hnat.out.2.2.2.2.2.2.2.2.2.2.1 hmf) (hnat.out.2.2.2.2.2.2.2.2.2.2.2 hfb) SA.out.2 SB.out.2
                have HIH := Aside0.mk hih
                clear hih
                go_wp2_with fail
                refine HIH.out.mono ?_
                rintro e_ w3 ⟨rfl, hs3, C2, hbk3, hso2, hal2⟩
                have HS3 := Aside0.mk (HS2.out.trans hs3)
                have HBK3 := Aside0.mk hbk3
                have HC2 := Aside0.mk (HMG2.out C2 hso2 hal2)
                clear hs3 hbk3 hso2 hal2
                go_wp2
                go_end0
                exact ⟨rfl, HS3.out, C1 ++ C2, by have := HBK3.out; simpa [List.append_assoc] using this, HC2.out⟩
              · have hz : B2 = [] := hnat.out.2.2.2.2.2.2.2.1 hfb
                have HC2 := Aside0.mk (HMG2.out (A2 ++ B2) (by rw [hz]; first | (rw [List.append_nil]; exact SA.out.2) | (rw [List.nil_append]; exact SB.out.2)) (Alike.refl _))
                clear hz
                go_wp2
                go_end0
                exact ⟨rfl, HS2.out, C1 ++ (A2 ++ B2), by have := HBK2.out; simpa [List.append_assoc] using this, HC2.out⟩
            · have hz : A2 = [] := hnat.out.2.2.2.2.2.2.1 hmf
              have HC2 := Aside0.mk (HMG2.out (A2 ++ B2) (by rw [hz]; first | (rw [List.append_nil]; exact SA.out.2) | (rw [List.nil_append]; exact SB.out.2)) (Alike.refl _))
              clear hz
              go_wp2
              go_end0
              exact ⟨rfl, HS2.out, C1 ++ (A2 ++ B2), by have := HBK2.out; simpa [List.append_assoc] using this, HC2.out⟩
          · have hz : B1 = [] := hnat.out.2.2.2.2.2.1 hsm2
            obtain ⟨C1, HBK2, HC1⟩ : ∃ C1, Aside0 (Blk wc g pre post (P ++ (C1 ++ (A2 ++ (B2 ++ R))))) ∧ Aside0 (Sorted_ (keyQ q) C1 ∧ Alike (keyQ q) (A1 ++ B1) C1) := ⟨A1 ++ B1, ⟨by have := HBK1.out; simpa [List.append_assoc] using this⟩, ⟨by rw [hz]; first | (rw [List.append_nil]; exact SA.out.1) | (rw [List.nil_append]; exact SB.out.1), Alike.refl _⟩⟩
            have HS2 := HS1
            clear hz
            have HE3 := Aside0.mk (hbk_env2 HE.out HS2.out HAB.out HC1.out.2)
            have hmidl : Aside0 ((P ++ C1).length = mid) := ⟨by rw [List.length_append, HC1.out.2.1, List.length_append, HP.out]; have := HL4.out; have := hnat.out.2.2.1; omega⟩
            have hlen3 : Aside0 (len = ((P ++ C1) ++ (A2 ++ (B2 ++ R))).length) := ⟨by rw [HLB.out]; have := HC1.out.2.1; simp only [List.length_append] at this ⊢; omega⟩
            have HMG : ∀ C2, Sorted_ (keyQ q) C2 → Alike (keyQ q) (A2 ++ B2) C2 → Sorted_ (keyQ q) (C1 ++ C2) ∧ Alike (keyQ q) (A ++ B) (C1 ++ C2) := by
              intro C2 h1 h2
              have hA := HA.out
              have hB := HB.out
              rw [HAB.out.1] at hA ⊢
              rw [HAB.out.2] at hB ⊢
              exact merge_cut hA hB HC12.out.1 HC12.out.2 HC1.out.1 HC1.out.2 h1 h2
            have HMG2 := Aside0.mk HMG
            clear HMG
            by_cases hmf : mid < fi
            · by_cases hfb : fi < b
              · have hih := IH.out wc (P ++ C1) A2 B2 R mid fi b hnat.out.2.1 HE3.out (by have := HBK2.out; rw [List.append_assoc]; exact this) hlen3.out hmidl.out hnat.out.2.2.2.1 HL4.out.2.2.2 (hnat.out.2.2.2.2.2.2.2.2.2.2.1 hmf) (hnat.out.2.2.2.2.2.2.2.2.2.2.2 hfb) SA.out.2 SB.out.2
                have HIH := Aside0.mk hih
                clear hih
                go_wp2_with fail
                refine HIH.out.mono ?_
                rintro e_ w3 ⟨rfl, hs3, C2, hbk3, hso2, hal2⟩
                have HS3 := Aside0.mk (HS2.out.trans hs3)
                have HBK3 := Aside0.mk hbk3
                have HC2 := Aside0.mk (HMG2.out C2 hso2 hal2)
                clear hs3 hbk3 hso2 hal2
                go_wp2
                go_end0
                exact ⟨rfl, HS3.out, C1 ++ C2, by have := HBK3.out; simpa [List.append_assoc] using this, HC2.out⟩
              · have hz : B2 = [] := hnat.out.2.2.2.2.2.2.2.1 hfb
                have HC2 := Aside0.mk (HMG2.out (A2 ++ B2) (by rw [hz]; first | (rw [List.append_nil]; exact SA.out.2) | (rw [List.nil_append]; exact SB.out.2)) (Alike.refl _))
                clear hz
                go_wp2
                go_end0
                exact ⟨rfl, HS2.out, C1 ++ (A2 ++ B2), by have := HBK2.out; simpa [List.append_assoc] using this, HC2.out⟩
            · have hz : A2 = [] := hnat.out.2.2.2.2.2.2.1 hmf
              have HC2 := Aside0.mk (HMG2.out (A2 ++ B2) (by rw [hz]; first | (rw [List.append_nil]; exact SA.out.2) | (rw [List.nil_append]; exact SB.out.2)) (Alike.refl _))
              clear hz
              go_wp2
              go_end0
              exact ⟨rfl, HS2.out, C1 ++ (A2 ++ B2), by have := HBK2.out; simpa [List.append_assoc] using this, HC2.out⟩
        · have hz : A1 = [] := hnat.out.2.2.2.2.1 has
          obtain ⟨C1, HBK2, HC1⟩ : ∃ C1, Aside0 (Blk wc g pre post (P ++ (C1 ++ (A2 ++ (B2 ++ R))))) ∧ Aside0 (Sorted_ (keyQ q) C1 ∧ Alike (keyQ q) (A1 ++ B1) C1) := ⟨A1 ++ B1, ⟨by have := HBK1.out; simpa [List.append_assoc] using this⟩, ⟨by rw [hz]; first | (rw [List.append_nil]; exact SA.out.1) | (rw [List.nil_append]; exact SB.out.1), Alike.refl _⟩⟩
          have HS2 := HS1
          clear hz
          have HE3 := Aside0.mk (hbk_env2 HE.out HS2.out HAB.out HC1.out.2)
          have hmidl : Aside0 ((P ++ C1).length = mid) := ⟨by rw [List.length_append, HC1.out.2.1, List.length_append, HP.out]; have := HL4.out; have := hnat.out.2.2.1; omega⟩
          have hlen3 : Aside0 (len = ((P ++ C1) ++ (A2 ++ (B2 ++ R))).length) := ⟨by rw [HLB.out]; have := HC1.out.2.1; simp only [List.length_append] at this ⊢; omega⟩
          have HMG : ∀ C2, Sorted_ (keyQ q) C2 → Alike (keyQ q) (A2 ++ B2) C2 → Sorted_ (keyQ q) (C1 ++ C2) ∧ Alike (keyQ q) (A ++ B) (C1 ++ C2) := by
            intro C2 h1 h2
            have hA := HA.out
            have hB := HB.out
            rw [HAB.out.1] at hA ⊢
            rw [HAB.out.2] at hB ⊢
            exact merge_cut hA hB HC12.out.1 HC12.out.2 HC1.out.1 HC1.out.2 h1 h2
          have HMG2 := Aside0.mk HMG
          clear HMG
          by_cases hmf : mid < fi
          · by_cases hfb : fi < b
            · have hih := IH.out wc (P ++ C1) A2 B2 R mid fi b hnat.out.2.1 HE3.out (by have := HBK2.out; rw [List.append_assoc]; exact this) hlen3.out hmidl.out hnat.out.2.2.2.1 HL4.out.2.2.2 (hnat.out.2.2.2.2.2.2.2.2.2.2.1 hmf) (hnat.out.2.2.2.2.2.2.2.2.2.2.2 hfb) SA.out.2 SB.out.2
              have HIH := Aside0.mk hih
              clear hih
              go_wp2_with fail
              refine HIH.out.mono ?_
              rintro e_ w3 ⟨rfl, hs3, C2, hbk3, hso2, hal2⟩
              have HS3 := Aside0.mk (HS2.out.trans hs3)
              have HBK3 := Aside0.mk hbk3
              have HC2 := Aside0.mk (HMG2.out C2 hso2 hal2)
              clear hs3 hbk3 hso2 hal2
              go_wp2
              go_end0
              exact ⟨rfl, HS3.out, C1 ++ C2, by have := HBK3.out; simpa [List.append_assoc] using this, HC2.out⟩
            · have hz : B2 = [] := hnat.out.2.2.2.2.2.2.2.1 hfb
              have HC2 := Aside0.mk (HMG2.out (A2 ++ B2) (by rw [hz]; first | (rw [List.append_nil]; exact SA.out.2) | (rw [List.nil_append]; exact SB.out.2)) (Alike.refl _))
              clear hz
              go_wp2
              go_end0
              exact ⟨rfl, HS2.out, C1 ++ (A2 ++ B2), by have := HBK2.out; simpa [List.append_assoc] using this, HC2.out⟩
          · have hz : A2 = [] := hnat.out.2.2.2.2.2.2.1 hmf
            have HC2 := Aside0.mk (HMG2.out (A2 ++ B2) (by rw [hz]; first | (rw [List.append_nil]; exact SA.out.2) | (rw [List.nil_append]; exact SB.out.2)) (Alike.refl _))
            clear hz
            go_wp2
            go_end0
            exact ⟨rfl, HS2.out, C1 ++ (A2 ++ B2), by have := HBK2.out; simpa [List.append_assoc] using this, HC2.out⟩
end Go.Proofs.Ytcjjmfpkhhdmlaa.G

namespace Go.Proofs.Ytcjjmfpkhhdmlaa.G
open Go.RowKit Go.Proofs.YtcjjmfpkhhdmlaaW.PrintWords Go.Proofs.YtcjjmfpkhhdmlaaW.PrintLast Go.Proofs.YtcjjmfpkhhdmlaaW.PrintMore
attribute [local go_sem] max2_int min2_int max_two min_two max_three min_three max_four min_four   -- for this text's walks alone
/-! the stable sort whole -/
--import Derived.BigRegion
theorem merge_all (len c gn g : Nat) (q : Int) (pre post : List Value) (hc : len ≤ c) (hl : len ≤ 1000000) (hcm : c ≤ 9223372036854775807) : ∀ n, MergeCalls len c gn g q pre post n := by
  intro n
  induction n with
  | zero => intro W P A B R a m b hN hE h hlen hP hm hb hA1 hB1 hA hB; omega
  | succ n ih =>
    intro W P A B R a m b hN hE h hlen hP hm hb hA1 hB1 hA hB
    by_cases h1 : A.length = 1
    · obtain ⟨x, rfl⟩ := List.length_eq_one_iff.1 h1
      subst hm
      exact sym_one len c gn g q pre post hc hl hcm W P B R x a b hE h hlen hP hb hB1 hB
    · by_cases h2 : B.length = 1
      · obtain ⟨x, rfl⟩ := List.length_eq_one_iff.1 h2
        subst hb
        exact sym_last len c gn g q pre post hc hl hcm W P A R x a m hE h hlen hP hm (by omega) hA
      · exact sym_gen len c gn g q pre post n ih hc hl hcm W P A B R a m b hE h hlen hP hm hb (by omega) (by omega) hN hA hB
/-- runs of n elements are sorted -/
def RunsS (q : Int) (n : Nat) (l : List (Value × List Int)) : Prop := ∀ t : Nat, Sorted_ (keyQ q) (run_ l (t * n) n)
/-- a merge of two neighbours, as a range that is sorted -/
theorem merge_seg (len c gn g : Nat) (q : Int) (pre post : List Value) (hc : len ≤ c) (hl : len ≤ 1000000) (hcm : c ≤ 9223372036854775807) (W : World) (l : List (Value × List Int)) (a m b : Nat) (hE : SortEnv W g gn q l) (h : Blk W g pre post l) (hlen : len = l.length) (ham : a < m) (hmb : m < b) (hb : b ≤ len) (hA : Sorted_ (keyQ q) (run_ l a (m - a))) (hB : Sorted_ (keyQ q) (run_ l m (b - m))) :
    Calls Try.prog 176 #[.slice (some ⟨g, pre.length, none⟩) len c, .int .i64 a, .int .i64 m, .int .i64 b, .func (.func 128) #[] #[.pointer (some ⟨gn, 0, none⟩)]] W fun e W' => e = .returned (.tuple #[]) ∧ Sw W W' g ∧ ∃ ys, Blk W' g pre post ys ∧ SegS (keyQ q) l a b ys := by
  have hcut := Cut4.of l a m b (by omega) (by omega) (by omega)
  have h4 := hcut
  obtain ⟨e, h1, h2, h3⟩ := h4
  have hAl : ((l.drop a).take (m - a)).length = m - a := by omega
  have hBl : ((l.drop m).take (b - m)).length = b - m := by omega
  have hE' := hE
  have hB' := h
  rw [e] at hE' hB'
  refine (merge_all len c gn g q pre post hc hl hcm len W (l.take a) ((l.drop a).take (m - a)) ((l.drop m).take (b - m)) (l.drop b) a m b (by omega) hE' hB' (by rw [← e]; exact hlen) h1 (by omega) (by omega) (by omega) (by omega) hA hB).mono ?_
  rintro e_ w' ⟨he, hs, C, hbk, hso, hal⟩
  exact ⟨he, hs, _, hbk, hcut.seg hso hal⟩
theorem SegS.run {q : Int} {l ys : List (Value × List Int)} {a b : Nat} (h : SegS (keyQ q) l a b ys) (ha : a ≤ b) (hb : b ≤ l.length) : (∀ i n, i + n ≤ a → run_ ys i n = run_ l i n) ∧ (∀ i n, b ≤ i → run_ ys i n = run_ l i n) ∧ (∀ n, n = b - a ∨ b = l.length ∧ b - a ≤ n → Sorted_ (keyQ q) (run_ ys a n)) := by
  obtain ⟨m, rfl, hs, hal⟩ := h
  have hm : m.length = b - a := by have := hal.1; rw [List.length_take, List.length_drop] at this; omega
  exact ⟨fun i n h => run_near ha hb hm i n h, fun i n h => run_far ha hb hm i n h, fun n h => by rw [run_here ha hb hm n h]; exact hs⟩
/-- the first loop: a range of the list's beginning is in runs -/
def UpTo (q : Int) (n a : Nat) (l ys : List (Value × List Int)) : Prop := Alike (keyQ q) l ys ∧ ∀ t : Nat, (t + 1) * n ≤ a → Sorted_ (keyQ q) (run_ ys (t * n) n)
/-- the merging loop: up to a in runs of 2 n, behind it in runs of n -/
def Half (q : Int) (n k : Nat) (l ys : List (Value × List Int)) : Prop := Alike (keyQ q) l ys ∧ (∀ t : Nat, t < k → Sorted_ (keyQ q) (run_ ys (t * (2 * n)) (2 * n))) ∧ ∀ t : Nat, 2 * k ≤ t → Sorted_ (keyQ q) (run_ ys (t * n) n)
theorem run_past (l : List (Value × List Int)) (i n : Nat) (h : l.length ≤ i) : run_ l i n = [] := by unfold run_; rw [List.drop_of_length_le h, List.take_nil]
theorem UpTo.step {q : Int} {k n : Nat} {l ys zs : List (Value × List Int)} (h : UpTo q n (k * n) l ys) (hs : SegS (keyQ q) ys (k * n) (k * n + n) zs) (hb : k * n + n ≤ ys.length) : UpTo q n (k * n + n) l zs := by
  obtain ⟨h1, h2⟩ := h
  obtain ⟨r1, r2, r3⟩ := hs.run (by omega) hb
  refine ⟨h1.trans (hs.same (by omega) hb), fun t ht => ?_⟩
  rcases Nat.lt_or_ge t k with h | h
  · have h5 : (t + 1) * n ≤ k * n := Nat.mul_le_mul_right n h
    have h6 : (t + 1) * n = t * n + n := Nat.succ_mul t n
    rw [r1 _ _ (by omega)]
    exact h2 t h5
  · have h5 : (t + 1) * n = t * n + n := Nat.succ_mul t n
    have h6 : k * n ≤ t * n := Nat.mul_le_mul_right n h
    have h7 : t * n = k * n := by omega
    rw [h7]
    exact r3 n (.inl (by omega))
theorem UpTo.last {q : Int} {k n : Nat} {l ys zs : List (Value × List Int)} (h : UpTo q n (k * n) l ys) (hn : ys.length < k * n + n) (ha : k * n ≤ ys.length) (hs : SegS (keyQ q) ys (k * n) ys.length zs) : Half q n 0 l zs := by
  obtain ⟨h1, h2⟩ := h
  obtain ⟨r1, r2, r3⟩ := hs.run ha (Nat.le_refl _)
  have hzl := hs.length ha (Nat.le_refl _)
  refine ⟨h1.trans (hs.same ha (Nat.le_refl _)), fun t ht => absurd ht (by omega), fun t _ => ?_⟩
  rcases Nat.lt_trichotomy t k with h | h | h
  · have h5 : (t + 1) * n ≤ k * n := Nat.mul_le_mul_right n h
    have h6 : (t + 1) * n = t * n + n := Nat.succ_mul t n
    rw [r1 _ _ (by omega)]
    exact h2 t h5
  · subst h
    exact r3 n (.inr ⟨rfl, by omega⟩)
  · have h5 : (k + 1) * n ≤ t * n := Nat.mul_le_mul_right n h
    have h6 : (k + 1) * n = k * n + n := Nat.succ_mul k n
    rw [run_past _ _ _ (by omega)]
    exact List.Pairwise.nil
theorem Half.step {q : Int} {k n : Nat} {l ys zs : List (Value × List Int)} (h : Half q n k l ys) (hs : SegS (keyQ q) ys (k * (2 * n)) (k * (2 * n) + 2 * n) zs) (hb : k * (2 * n) + 2 * n ≤ ys.length) : Half q n (k + 1) l zs := by
  obtain ⟨h1, h2, h3⟩ := h
  obtain ⟨r1, r2, r3⟩ := hs.run (by omega) hb
  refine ⟨h1.trans (hs.same (by omega) hb), fun t ht => ?_, fun t ht => ?_⟩
  · rcases Nat.lt_or_ge t k with h | h
    · have h5 : (t + 1) * (2 * n) ≤ k * (2 * n) := Nat.mul_le_mul_right _ h
      have h6 : (t + 1) * (2 * n) = t * (2 * n) + 2 * n := Nat.succ_mul t _
      rw [r1 _ _ (by omega)]
      exact h2 t h
    · obtain rfl : t = k := by omega
      exact r3 _ (.inl (by omega))
  · have h5 : (2 * (k + 1)) * n ≤ t * n := Nat.mul_le_mul_right n ht
    have h6 : (2 * (k + 1)) * n = k * (2 * n) + 2 * n := by rw [Nat.mul_comm 2 (k + 1), Nat.mul_assoc, Nat.succ_mul]
    rw [r2 _ _ (by omega)]
    exact h3 t (by omega)
theorem Half.runs {q : Int} {k n : Nat} {l ys : List (Value × List Int)} (h : Half q n k l ys) (t : Nat) (ht : 2 * k ≤ t) : Sorted_ (keyQ q) (run_ ys (t * n) n) := h.2.2 t ht
theorem Half.end1 {q : Int} {k n : Nat} {l ys : List (Value × List Int)} (h : Half q n k l ys) (hl : ys.length ≤ k * (2 * n) + n) : Half q (2 * n) 0 l ys := by
  obtain ⟨h1, h2, h3⟩ := h
  refine ⟨h1, fun t ht => absurd ht (by omega), fun t _ => ?_⟩
  rcases Nat.lt_trichotomy t k with h | h | h
  · exact h2 t h
  · subst h
    have h4 := h3 (2 * t) (Nat.le_refl _)
    have e : 2 * t * n = t * (2 * n) := by rw [Nat.mul_comm 2 t, Nat.mul_assoc]
    rw [e] at h4
    unfold run_ at h4 ⊢
    rw [List.take_of_length_le (by rw [List.length_drop]; omega)] at h4 ⊢
    exact h4
  · have h5 : (k + 1) * (2 * n) ≤ t * (2 * n) := Nat.mul_le_mul_right _ h
    have h6 : (k + 1) * (2 * n) = k * (2 * n) + 2 * n := Nat.succ_mul k _
    rw [run_past _ _ _ (by omega)]
    exact List.Pairwise.nil
theorem Half.end2 {q : Int} {k n : Nat} {l ys zs : List (Value × List Int)} (h : Half q n k l ys) (hl : ys.length ≤ k * (2 * n) + 2 * n) (ha : k * (2 * n) ≤ ys.length) (hs : SegS (keyQ q) ys (k * (2 * n)) ys.length zs) : Half q (2 * n) 0 l zs := by
  obtain ⟨h1, h2, h3⟩ := h
  obtain ⟨r1, r2, r3⟩ := hs.run ha (Nat.le_refl _)
  have hzl := hs.length ha (Nat.le_refl _)
  refine ⟨h1.trans (hs.same ha (Nat.le_refl _)), fun t ht => absurd ht (by omega), fun t _ => ?_⟩
  rcases Nat.lt_trichotomy t k with h | h | h
  · have h5 : (t + 1) * (2 * n) ≤ k * (2 * n) := Nat.mul_le_mul_right _ h
    have h6 : (t + 1) * (2 * n) = t * (2 * n) + 2 * n := Nat.succ_mul t _
    rw [r1 _ _ (by omega)]
    exact h2 t h
  · subst h
    exact r3 _ (.inr ⟨rfl, by omega⟩)
  · have h5 : (k + 1) * (2 * n) ≤ t * (2 * n) := Nat.mul_le_mul_right _ h
    have h6 : (k + 1) * (2 * n) = k * (2 * n) + 2 * n := Nat.succ_mul k _
    rw [run_past _ _ _ (by omega)]
    exact List.Pairwise.nil
theorem Half.whole {q : Int} {n : Nat} {l ys : List (Value × List Int)} (h : Half q n 0 l ys) (hl : ys.length ≤ n) : Sorted_ (keyQ q) ys ∧ Alike (keyQ q) l ys := by
  have := h.2.2 0 (by omega)
  unfold run_ at this
  rw [Nat.zero_mul, List.drop_zero, List.take_of_length_le hl] at this
  exact ⟨this, h.1⟩
theorem Half.run_lo {q : Int} {k n : Nat} {l ys : List (Value × List Int)} (h : Half q n k l ys) : Sorted_ (keyQ q) (run_ ys (k * (2 * n)) n) := by
  have h4 := h.2.2 (2 * k) (Nat.le_refl _)
  rwa [show 2 * k * n = k * (2 * n) by rw [Nat.mul_comm 2 k, Nat.mul_assoc]] at h4
theorem Half.run_hi {q : Int} {k n : Nat} {l ys : List (Value × List Int)} (h : Half q n k l ys) (m : Nat) (hm : m ≤ n) : Sorted_ (keyQ q) (run_ ys (k * (2 * n) + n) m) := by
  have h4 := h.2.2 (2 * k + 1) (by omega)
  rw [show (2 * k + 1) * n = k * (2 * n) + n by rw [Nat.succ_mul, Nat.mul_comm 2 k, Nat.mul_assoc]] at h4
  have e : run_ ys (k * (2 * n) + n) m = (run_ ys (k * (2 * n) + n) n).take m := by unfold run_; rw [List.take_take, Nat.min_eq_left hm]
  rw [e]
  exact List.Pairwise.sublist (List.take_sublist _ _) h4
theorem SegS.mem_ {q : Int} {l ys : List (Value × List Int)} {a b : Nat} (h : SegS (keyQ q) l a b ys) (ha : a ≤ b) (hb : b ≤ l.length) : ∀ p ∈ ys, p ∈ l := fun p hp => ((h.same ha hb).mem p).1 hp
set_option maxRecDepth 100000 in
set_option maxHeartbeats 4000000 in
theorem stable_calls (W : World) (g gn : Nat) (q : Int) (pre post : List Value) (xs : List (Value × List Int)) (c len : Nat) (hE : SortEnv W g gn q xs) (h : Blk W g pre post xs) (hlen : len = xs.length) (hc : len ≤ c) (hl : len ≤ 1000000) (hcm : c ≤ 9223372036854775807) :
    Calls Try.prog 161 #[.slice (some ⟨g, pre.length, none⟩) len c, .int .i64 len, .func (.func 128) #[] #[.pointer (some ⟨gn, 0, none⟩)]] W fun e W' => e = .returned (.tuple #[]) ∧ Sw W W' g ∧ ∃ ys, Blk W' g pre post ys ∧ Sorted_ (keyQ q) ys ∧ Alike (keyQ q) xs ys := by
  have HE := Aside0.mk hE
  have HH := Aside0.mk h
  have HLEN := Aside0.mk hlen
  clear hE h hlen
  go_enter Try.func161, Try.ntmps161
  go_wp2
  go_loopw [7, 8] (fun v7 v8 w' => ∃ (k : Nat) (ys : List (Value × List Int)), v7 = .int .i64 ((k * 20 : Nat) : Int) ∧ v8 = .int .i64 ((k * 20 + 20 : Nat) : Int) ∧ k * 20 ≤ len ∧ Aside0 (UpTo q 20 (k * 20) xs ys) ∧ Aside0 (Blk w' g pre post ys) ∧ Aside0 (Sw W w' g)) (fun v7 v8 w' => len - (intOf v7).toNat)
  case atStart => exact ⟨0, xs, rfl, rfl, by omega, ⟨Alike.refl _, fun t ht => absurd ht (by omega)⟩, HH, ⟨Sw.refl _ _⟩⟩
  case round =>
    obtain ⟨k, ys, rfl, rfl, hk, HU, HB, HS⟩ := hrel
    clear HH
    have hyl : ys.length = len := by rw [HU.out.1.1, HLEN.out]
    have HYL := Aside0.mk hyl
    have hEn := HE.out.step HS.out (fun p hp => (HU.out.1.mem p).1 hp)
    obtain ⟨a, ha⟩ : ∃ a, a = k * 20 := ⟨_, rfl⟩
    have HA := Aside0.mk ha
    rw [← ha] at hk ⊢
    by_cases hlt : a + 20 ≤ len
    · have hic := insertion_calls wr g gn q pre post ys a (a + 20) c len hEn HB.out hyl.symm hc hl hcm (by omega) hlt
      have HIC := Aside0.mk hic
      clear hic hEn hyl ha
      have hlt2 : ((a : Int) + 20) ≤ len := by omega
      obtain ⟨b, hb⟩ : ∃ b, b = a + 20 := ⟨_, rfl⟩
      have HBB := Aside0.mk hb
      rw [← hb] at HIC ⊢
      have hbl : b ≤ len := by omega
      have bb : Aside0 ((b : Int) + 20 = ((b + 20 : Nat) : Int)) := ⟨by omega⟩
      clear hb hlt hlt2
      go_wp2_with fail
      refine HIC.out.mono ?_
      rintro e_ w1 ⟨rfl, hs1, zs, hbk1, hsg⟩
      have HS1 := Aside0.mk (HS.out.trans hs1)
      have HBK1 := Aside0.mk hbk1
      have HU1 : Aside0 (UpTo q 20 ((k + 1) * 20) xs zs) := ⟨by
        have h1 := HU.out
        have h2 := HA.out
        have h3 := HBB.out
        rw [h3, h2] at hsg
        have := UpTo.step h1 hsg (by rw [HYL.out]; omega)
        rwa [show (k + 1) * 20 = k * 20 + 20 by omega]⟩
      clear hs1 hbk1 hsg
      go_wp2
      (try rw [bb.out])
      go_roundw
      case rel =>
        have h2 := HA.out
        have h3 := HBB.out
        exact ⟨k + 1, zs, by rw [h3, h2]; go_num, by rw [h3, h2]; go_num, by omega, HU1, HBK1, HS1⟩
      case measure => have h3 := HBB.out; simp [intOf]; omega
    · have hic := insertion_calls wr g gn q pre post ys a len c len hEn HB.out hyl.symm hc hl hcm (by omega) (Nat.le_refl _)
      have HIC := Aside0.mk hic
      clear hic hEn hyl ha
      have hlt2 : ¬ ((a : Int) + 20) ≤ len := by omega
      have HLT := Aside0.mk hlt
      clear hlt
      go_wp2_with fail
      refine HIC.out.mono ?_
      rintro e_ w1 ⟨rfl, hs1, zs, hbk1, hsg⟩
      have HS1 := Aside0.mk (HS.out.trans hs1)
      have HBK1 := Aside0.mk hbk1
      have HF1 : Aside0 (Half q 20 0 xs zs) := ⟨by
        have h1 := HU.out
        have h2 := HA.out
        have h3 := HLT.out
        have h4 := HYL.out
        rw [h2, ← h4] at hsg
        exact UpTo.last h1 (by omega) (by omega) hsg⟩
      clear hs1 hbk1 hsg HU HB HS hlt2
      go_wp2
      go_loopw [6] (fun v6 w' => ∃ (nb : Nat) (ys : List (Value × List Int)), v6 = .int .i64 nb ∧ 20 ≤ nb ∧ nb ≤ 2000000 ∧ Aside0 (Half q nb 0 xs ys) ∧ Aside0 (Blk w' g pre post ys) ∧ Aside0 (Sw W w' g)) (fun v6 w' => len - (intOf v6).toNat)
      case atStart => exact ⟨20, zs, rfl, by omega, by omega, HF1, HBK1, HS1⟩
      case round =>
        clear HF1 HBK1 HS1
        obtain ⟨nb, ys, rfl, hnb, hnb2, HF, HB, HS⟩ := hrel
        have e2 : Aside0 ((2 : Int) * nb = ((2 * nb : Nat) : Int)) := ⟨by omega⟩
        by_cases hlt : nb < len
        · go_wp2
          rw [e2.out]
          go_loopw [7, 8] (fun v7 v8 w' => ∃ (k a : Nat) (ys : List (Value × List Int)), v7 = .int .i64 (a : Int) ∧ v8 = .int .i64 ((a + 2 * nb : Nat) : Int) ∧ a ≤ len ∧ Aside0 (a = k * (2 * nb)) ∧ Aside0 (Half q nb k xs ys) ∧ Aside0 (Blk w' g pre post ys) ∧ Aside0 (Sw W w' g)) (fun v7 v8 w' => len - (intOf v7).toNat)
          case atStart => exact ⟨0, 0, ys, rfl, by go_num, by omega, ⟨by omega⟩, HF, HB, HS⟩
          case round =>
            clear HF HB HS
            obtain ⟨k, a, ys, rfl, rfl, hal, HA2, HF, HB, HS⟩ := hrel
            have hyl : ys.length = len := by rw [HF.out.1.1, HLEN.out]
            have HYL := Aside0.mk hyl
            have hEn := HE.out.step HS.out (fun p hp => (HF.out.1.mem p).1 hp)
            have am : Aside0 ((a : Int) + nb = ((a + nb : Nat) : Int)) := ⟨by omega⟩
            have hlo := HF.out.run_lo
            rw [← HA2.out] at hlo
            have hhi := fun m hm => HF.out.run_hi m hm
            rw [← HA2.out] at hhi
            by_cases hab : a + 2 * nb ≤ len
            · have hmc := merge_seg len c gn g q pre post hc hl hcm wr ys a (a + nb) (a + 2 * nb) hEn HB.out hyl.symm (by omega) (by omega) hab (by rw [Nat.add_sub_cancel_left]; exact hlo) (by rw [show a + 2 * nb - (a + nb) = nb by omega]; exact hhi nb (Nat.le_refl _))
              have HMC := Aside0.mk hmc
              obtain ⟨b, hb⟩ : ∃ b, b = a + 2 * nb := ⟨_, rfl⟩
              have HBB := Aside0.mk hb
              rw [← hb] at HMC hab ⊢
              have bb : Aside0 ((b : Int) + ((2 * nb : Nat) : Int) = ((b + 2 * nb : Nat) : Int)) := ⟨by omega⟩
              clear hmc hEn hyl hlo hhi hb
              go_wp2_with fail
              rw [am.out]
              refine HMC.out.mono ?_
              rintro e_ w2 ⟨rfl, hs2, zs, hbk2, hsg⟩
              have HS2 := Aside0.mk (HS.out.trans hs2)
              have HBK2 := Aside0.mk hbk2
              have HF2 : Aside0 (Half q nb (k + 1) xs zs) := ⟨by
                have h2 := HA2.out
                have h3 := HBB.out
                rw [h3, h2] at hsg
                exact Half.step HF.out hsg (by rw [HYL.out]; omega)⟩
              have HA3 : Aside0 (b = (k + 1) * (2 * nb)) := ⟨by rw [HBB.out, HA2.out]; exact (Nat.succ_mul k (2 * nb)).symm⟩
              clear hs2 hbk2 hsg
              go_wp2
              rw [e2.out, bb.out]
              go_roundw
              case rel => exact ⟨k + 1, b, zs, rfl, rfl, hab, HA3, HF2, HBK2, HS2⟩
              case measure => have h3 := HBB.out; simp [intOf]; omega
            · by_cases hmn : a + nb < len
              · have hmc := merge_seg len c gn g q pre post hc hl hcm wr ys a (a + nb) len hEn HB.out hyl.symm (by omega) hmn (Nat.le_refl _) (by rw [Nat.add_sub_cancel_left]; exact hlo) (hhi (len - (a + nb)) (by omega))
                have HMC := Aside0.mk hmc
                have hab2 : ¬ ((a + 2 * nb : Nat) : Int) ≤ len := by omega
                have HAB := Aside0.mk hab
                clear hmc hEn hyl hlo hhi hab
                go_wp2_with fail
                rw [am.out]
                refine HMC.out.mono ?_
                rintro e_ w2 ⟨rfl, hs2, zs, hbk2, hsg⟩
                have HS2 := Aside0.mk (HS.out.trans hs2)
                have HBK2 := Aside0.mk hbk2
                have HF2 : Aside0 (Half q (2 * nb) 0 xs zs) := ⟨by
                  have h2 := HA2.out
                  have h3 := HAB.out
                  have h4 := HYL.out
                  rw [h2, ← h4] at hsg
                  exact Half.end2 HF.out (by omega) (by omega) hsg⟩
                have e3 : Aside0 ((nb : Int) * 2 = ((2 * nb : Nat) : Int)) := ⟨by omega⟩
                clear hs2 hbk2 hsg
                go_wp2
                rw [e3.out]
                go_roundw
                case rel => exact ⟨2 * nb, zs, rfl, by omega, by omega, HF2, HBK2, HS2⟩
                case measure => simp [intOf]; omega
              · have hab2 : ¬ ((a + 2 * nb : Nat) : Int) ≤ len := by omega
                have hmn2 : ¬ ((a : Int) + nb) < len := by omega
                have HF2 : Aside0 (Half q (2 * nb) 0 xs ys) := ⟨by
                  have h2 := HA2.out
                  have h4 := HYL.out
                  exact Half.end1 HF.out (by omega)⟩
                have e3 : Aside0 ((nb : Int) * 2 = ((2 * nb : Nat) : Int)) := ⟨by omega⟩
                clear hEn hyl hlo hhi hab hmn
                go_wp2
                rw [e3.out]
                go_roundw
                case rel => exact ⟨2 * nb, ys, rfl, by omega, by omega, HF2, HB, HS⟩
                case measure => simp [intOf]; omega
        · have hw := HF.out.whole (by rw [HF.out.1.1, ← HLEN.out]; omega)
          have HWH := Aside0.mk hw
          clear hw
          go_wp2
          go_end0
          exact ⟨rfl, HS.out, ys, HB.out, HWH.out⟩
set_option maxRecDepth 100000 in
set_option maxHeartbeats 4000000 in
theorem sort_calls (W : World) (g gn : Nat) (q : Int) (pre post : List Value) (xs : List (Value × List Int)) (c len : Nat) (hE : SortEnv W g gn q xs) (h : Blk W g pre post xs) (hlen : len = xs.length) (hc : len ≤ c) (hl : len ≤ 1000000) (hcm : c ≤ 9223372036854775807) :
    Calls Try.prog 127 #[.slice (some ⟨g, pre.length, none⟩) len c, .func (.func 128) #[] #[.pointer (some ⟨gn, 0, none⟩)]] W fun e W' => e = .returned (.tuple #[]) ∧ Sw W W' g ∧ ∃ ys, Blk W' g pre post ys ∧ ys.map Prod.snd = sortM (xs.map Prod.snd) q ∧ Alike (keyQ q) xs ys := by
  have HC := Aside0.mk (stable_calls W g gn q pre post xs c len hE h hlen hc hl hcm)
  have HPX : Aside0 (∀ p ∈ xs, 0 ≤ keyQ q p ∧ keyQ q p < 256) := ⟨fun p hp => by have := px_rd (hE.px p hp) q hE.q0 (by have := hE.q1; omega); unfold keyQ; omega⟩
  clear hE h hlen
  go_enter Try.func127, Try.ntmps127
  go_wp2_with fail
  refine HC.out.mono ?_
  rintro e_ w1 ⟨rfl, hs1, ys, hbk, hso, hal⟩
  have HR : Aside0 (ys.map Prod.snd = sortM (xs.map Prod.snd) q) := ⟨by
    have h1 := stable_one hso hal 256 HPX.out
    rw [h1]
    have key : ∀ n : Nat, (byKey (keyQ q) xs n).map Prod.snd = sortGo (xs.map Prod.snd) q n := by
      intro n
      induction n with
      | zero => rfl
      | succ n ih =>
        simp only [byKey, sortGo, sortV, List.map_append, ih]
        congr 1
        rw [List.filter_map]
        rfl
    exact key 256⟩
  have HS1 := Aside0.mk hs1
  have HBK := Aside0.mk hbk
  have HAL := Aside0.mk hal
  clear hs1 hbk hso hal
  go_wp2
  go_end0
  exact ⟨rfl, HS1.out, ys, HBK.out, HR.out, HAL.out⟩
end Go.Proofs.Ytcjjmfpkhhdmlaa.G

namespace Go.Proofs.Ytcjjmfpkhhdmlaa.G
open Go.RowKit Go.Proofs.YtcjjmfpkhhdmlaaW.PrintWords Go.Proofs.YtcjjmfpkhhdmlaaW.PrintLast Go.Proofs.YtcjjmfpkhhdmlaaW.PrintMore
attribute [local go_sem] max2_int min2_int max_two min_two max_three min_three max_four min_four   -- for this text's walks alone
/-! ### impl_Palette: function 53 -/
--import Derived.BigRegion
--import Derived.Deep.CutBlock
--import Derived.Deep.CutRange
--import Derived.Deep.LoopGhost
--import Derived.Deep.DeepCutAuto
--import Derived.WalkSpells
set_option maxRecDepth 100000 in
set_option maxHeartbeats 4000000 in
theorem cloneR_calls (A : Option Addr) (c : Nat) (l : List (List Int)) (w : World) (hr : Kd.C dRow w A l.length l) (hc : l.length ≤ c) (hl : l.length ≤ 1000000) (h0 : 0 < l.length) :
    Calls Try.prog 125 #[.slice A l.length c] w fun e w' => ∃ v : Value, e = .returned v ∧ Kd.N dRow 22 w' w.heap.size (fun _ => True) v l ∧ Below w.heap.size w w' := by
  obtain ⟨ad, rfl, _⟩ := hr.2.2 h0
  have HF : Aside0 (Kd.F dRow w (fun k => k < w.heap.size) (some ad) l.length l) := ⟨Kd.F_mono (Kd.F_bound (Kd.C_F (Kd.heap_slice _ (Kd.heap_int _)) hr)) (fun k hk => hk.2)⟩
  have HC := Aside0.mk hc
  clear hr hc
  have he := eql_slice_nil (P := Try.prog) w 36 22 (some ad) l.length c 0 0 Try.underlying36
  go_enter Try.func125, Try.ntmps125
  go_wp2_with (first | ((with_reducible refine gate_dst (N := 5) rfl ?_); refine Kd.N_lit (w0 := w) dRow w.heap.size 22 ?hg (N' := 5) ?hd (xs := ([] : List (List Int))) (inner := []) (ok := fun _ => True) (okp := fun _ => True) ?hr (Reps.none _ _) (fun _ hk => hk) trivial (Below.refl _ _) (Nat.le_refl _) (by simp) ?_; (case hd => rfl); (case hg => rfl); (case hr => first | (go_simp; done) | (go_simp; rfl)); intro v5 W1 ho hb hg_ hnew_; have HO := Aside0.mk ho; have HB := Aside0.mk hb; have HNEW := Aside0.mk hnew_; clear ho hb hg_ hnew_) | ((with_reducible refine gate_builtin (b := .append) (xs := #[.tmp 5, .tmp 6]) rfl ?_); at_builtin; go_loud (refine Kd.N_append_rows dRow (w0 := w) w.heap.size rfl (.tmp 5) (.tmp 6) 36 22 (.slice none 0 0) 24 rfl Try.underlying36 info22 rfl (by decide) (by omega) v5 [] l _ _ _ (fun _ => True) (fun k => k < w.heap.size) rfl rfl HO.out (Kd.F_step HF.out (fun k hk _ => HB.out.block k hk)) (fun k hk => ⟨trivial, fun e => by obtain ⟨b, hb1, hb2⟩ := HNEW.out; rw [hb1] at e; injection e with e; omega⟩) (fun _ _ => trivial) HB.out HB.out.size (by simp; omega) ?_; intro v7 w3 ho hb hg hat); have HO3 := Aside0.mk ho; have HB3 := Aside0.mk hb; clear ho hb hg hat))
  go_ret
  exact ⟨_, rfl, HO3.out, HB3.out⟩
def impl_Palette.f (l0 : List (List Int)) (a1 : Int) : Option (List (List Int)) := if l0.length ≤ 1048576 then some (palM l0 a1) else none
def PalRelI (w W1 : World) (g cap n : Nat) (post : List Value) (L1 : List (Value × List Int)) (a1 : Int) (l0 : List (List Int)) (kq : Nat) (v5 : Value) (w' : World) : Prop :=
  ∃ (bs : List (List (List Int))) (f : Nat), Aside0 (PalI w W1 g cap n post L1 v5 bs w') ∧ Aside0 (BoxesOk bs) ∧ Aside0 (palGo a1 f bs = palGo a1 a1.toNat [l0]) ∧ a1 ≤ bs.length + f ∧ 1 ≤ bs.length ∧ kq = a1.toNat - bs.length + 1
def PalEndI (w W1 : World) (g cap n : Nat) (post : List Value) (L1 : List (Value × List Int)) (a1 : Int) (l0 : List (List Int)) (v5 : Value) (w' : World) : Prop :=
  ∃ bs : List (List (List Int)), Aside0 (PalI w W1 g cap n post L1 v5 bs w') ∧ Aside0 (BoxesOk bs) ∧ Aside0 (palGo a1 a1.toNat [l0] = bs) ∧ 1 ≤ bs.length
theorem palGo_stopI (k : Int) (f : Nat) (bs : List (List (List Int))) (h : ¬ (bs.length : Int) < k ∨ partM bs = none) : palGo k f bs = bs := by
  cases f with
  | zero => rfl
  | succ f =>
    simp only [palGo]
    rcases h with h | h
    · rw [if_neg h]
    · split
      · rw [h]
      · rfl
set_option maxRecDepth 100000 in
set_option maxHeartbeats 8000000 in
theorem impl_Palette.callsS (A0 : Option Addr) (c0 : Nat) (l0 : List (List Int)) (a1 : Int) (r : List (List Int)) (w : World) (hr0 : Kd.C dRow w A0 l0.length l0) (hc0 : l0.length ≤ c0) (h : impl_Palette.f l0 a1 = some r) :
    Calls Try.prog 53 #[.slice A0 l0.length c0, .int .i64 a1] w fun e w' => ∃ v0_ : Value, e = .returned v0_ ∧ Kd.S dRow 22 w' w.heap.size (fun _ => True) v0_ r ∧ Below w.heap.size w w' := by
  unfold impl_Palette.f at h
  split at h
  · rename_i hl
    have HH := Aside0.mk (Option.some.inj h)
    have HR := Aside0.mk hr0
    have HC := Aside0.mk hc0
    clear h hr0 hc0
    obtain ⟨pk, hpk⟩ : ∃ pk, pk = (decide (l0.length ≤ 4096) && l0.all isPx) := ⟨_, rfl⟩
    obtain ⟨u, hu⟩ : ∃ u : Bool, u = (decide (1 ≤ a1) && decide (a1 ≤ 256)) := ⟨_, rfl⟩
    have hpv : impl_PixelsOk.f l0 = some pk := by rw [hpk]; rfl
    have huv : impl_within.f a1 1 256 = some u := by rw [hu]; exact impl_within.val a1 1 256
    have hok : palOk l0 a1 = (pk && decide (l0.length ≠ 0) && u) := by unfold palOk; rw [hpk, hu]
    unfold palM at HH
    have hdone : palOk l0 a1 = false → r = [] := fun e => by have h1 := HH.out; rw [e, if_neg (by decide)] at h1; exact h1.symm
    have HDONE := Aside0.mk hdone
    have HOK := Aside0.mk hok
    have HPK := Aside0.mk hpk
    have HU := Aside0.mk hu
    have HPV := Aside0.mk hpv
    have HUV := Aside0.mk huv
    clear hpk hu hpv huv hok hdone
    go_enter Try.func53, Try.ntmps53
    go_wp2_with fail
    refine (impl_PixelsOk.calls A0 c0 l0 pk _ HR.out HC.out HPV.out).mono ?_
    rintro e_ w_ ⟨rfl, ⟨n1, rfl⟩⟩
    have HB2 := Aside0.mk (pw_below_drewN (Below.refl w.heap.size w) n1)
    cases pk with
    | false =>
      go_wp2
      go_ret
      have := HDONE.out (by rw [HOK.out]; rfl)
      subst this
      exact ⟨_, rfl, Kd.S_nil _ _ _ _ _, HB2.out⟩
    | true =>
      by_cases hl0 : l0.length = 0
      · have z1 : ((l0.length : Int) == 0) = true := by rw [beq_iff_eq]; omega
        have z2 : (l0.length == 0) = true := by rw [beq_iff_eq]; omega
        have HL0 := Aside0.mk hl0
        clear hl0
        go_wp2
        go_ret
        have := HDONE.out (by rw [HOK.out, HL0.out]; rfl)
        subst this
        exact ⟨_, rfl, Kd.S_nil _ _ _ _ _, HB2.out⟩
      · have z1 : ((l0.length : Int) == 0) = false := by rw [beq_eq_false_iff_ne]; omega
        have z2 : (l0.length == 0) = false := by rw [beq_eq_false_iff_ne]; omega
        go_wp2_with fail
        refine (impl_within.calls a1 1 256 u _ HUV.out).mono ?_
        rintro e_ w_ ⟨rfl, ⟨n2, rfl⟩⟩
        have HB3 := Aside0.mk (pw_below_drewN (Below.refl w.heap.size w) (n1 + n2))
        cases u with
        | false =>
          go_wp2
          go_ret
          have := HDONE.out (by rw [HOK.out, Bool.and_false])
          subst this
          exact ⟨_, rfl, Kd.S_nil _ _ _ _ _, HB3.out⟩
        | true =>
          have hn : 1 ≤ a1 ∧ a1 ≤ 256 := by have := HU.out.symm; simpa using this
          obtain ⟨n0, n1'⟩ := hn
          have hh := HH.out
          rw [HOK.out, if_pos (by simp [hl0])] at hh
          replace HH := Aside0.mk hh
          have hpx : l0.length ≤ 4096 ∧ ∀ px ∈ l0, isPx px = true := by have := HPK.out.symm; simpa using this
          have hbo : BoxesOk [l0] := ⟨fun b hb px hx => by rw [List.mem_singleton.1 hb] at hx; exact hpx.2 px hx, fun b hb => by rw [List.mem_singleton.1 hb]; omega, by simp⟩
          have HBO := Aside0.mk hbo
          have HPX := Aside0.mk hpx.2
          have hl4 := hpx.1
          clear hh hbo hpx HOK HPK HDONE HU HUV
          obtain ⟨w2, hw2⟩ : ∃ w2, w2 = w.drewN (n1 + n2) := ⟨_, rfl⟩
          have HR2 : Aside0 (Kd.C dRow w2 A0 l0.length l0) := ⟨by rw [hw2]; exact Kd.C_below HR.out (pw_below_drewN (Below.refl _ _) _)⟩
          rw [← hw2] at HB3
          have hz2 : w.heap.size = w2.heap.size := by rw [hw2]; rfl
          have HZ2 := Aside0.mk hz2
          go_wp2_with fail
          (try rw [World.drewN_drewN])
          rw [← hw2]
          clear hw2 hz2
          refine (cloneR_calls A0 c0 l0 w2 HR2.out HC.out (by omega) (by omega)).mono ?_
          rintro e_ W1 ⟨v37, rfl, hN, hB1⟩
          obtain ⟨g, cap, post, L1, e37, hg0, hcap0, hcap1, hsnd, hblk, hfk⟩ := N_blk hN (by omega)
          subst e37
          obtain ⟨n, hn⟩ : ∃ n, n = l0.length := ⟨_, rfl⟩
          have hL1 : L1.length = n := by rw [hn, ← hsnd, List.length_map]
          have hPC : PalC w W1 g cap n L1 := ⟨by rw [HZ2.out]; exact hg0, blk_lt hblk.blk, by omega, by omega, by omega, hcap1, fun p hp => HPX.out p.2 (by rw [← hsnd]; exact List.mem_map_of_mem hp), fun p hp => Kd.FK_mono (hfk p hp) (fun k hk => hk.2)⟩
          have HPC := Aside0.mk hPC
          have HB4 := Aside0.mk (Below.trans HB3.out (by rw [HZ2.out]; exact hB1))
          have HBLK := Aside0.mk hblk
          have HSND := Aside0.mk hsnd
          have HL1 := Aside0.mk hL1
          have HN := Aside0.mk hn
          clear hN hB1 hg0 hcap1 hsnd hblk hfk hL1 hPC HB2 HB3 HR2
          rw [← HN.out]
          go_upto_block 0 with (first | ((with_reducible refine gate_dst (N := 38) rfl ?_); refine Kd.R_lit (w0 := W1) (Kd.raw 1) W1.heap.size 36 ?hg (N := 38) ?hd (xs := [boxHdr g cap (0, n)]) (inner := [.slice (some ⟨g, 0, none⟩) n cap]) (ok := fun _ => True) (okp := fun _ => True) ?hr (hdr_rep g cap (0, n)) (fun _ hk => hk) trivial (Below.refl _ _) (Nat.le_refl _) (by simp) ?_; (case hd => rfl); (case hg => rfl); (case hr => first | (go_simp; done) | (go_simp; rfl)); intro v5 w3 ho hb hg_ hnew_; have HI := Aside0.mk (PalI.start HPC.out HBLK.out HSND.out HN.out ho hb HB4.out); clear ho hb hg_ hnew_))
          clear HBLK HSND HL1 HB4
          go_cut [5] (fun v5 wx => PalEndI w W1 g cap n post L1 a1 l0 v5 wx)
          case first =>
            go_wp2_with fail
            go_loopg [5] (a1.toNat) (fun kq v5 w' => PalRelI w W1 g cap n post L1 a1 l0 kq v5 w')
            case atStart => exact ⟨[l0], a1.toNat, HI, HBO, ⟨rfl⟩, by simp; omega, by simp, by simp; omega⟩
            case round =>
              clear HI HBO
              obtain ⟨bs, f, HI, HBO, HG, hfu, hb1, rfl⟩ := hrel
              obtain ⟨gb, c5, e5, hgb, hgl, _⟩ := Kd.N_form (HI.out.N HPC.out hb1) (by omega)
              subst e5
              by_cases hlt : (bs.length : Int) < a1
              · have hwide := pickM_range bs HBO.out.1
                obtain ⟨pb, hpb⟩ : ∃ pb, pb = pickM bs := ⟨_, rfl⟩
                rw [← hpb] at hwide
                have HPB := Aside0.mk hpb
                clear hpb
                have hI4 := HI.out.below (below_alloc (Below.refl _ _) (Obj.cells #[.int .i64 0] 3))
                have hnum := blk_new wr (Obj.cells #[.int .i64 0] 3)
                have hgn : W1.heap.size ≤ wr.heap.size := by obtain ⟨_, _, hk⟩ := HI.out; exact hk.keep.1
                go_wp2_with fail
                generalize wr.alloc (Obj.cells #[.int .i64 0] 3) = w4 at hI4 hnum ⊢
                obtain ⟨gn, hgne⟩ : ∃ gn, gn = wr.heap.size := ⟨_, rfl⟩
                rw [← hgne] at hnum hgn ⊢
                have HI4 := Aside0.mk hI4
                have HNUM := Aside0.mk hnum
                clear hI4 hnum hgne HI hgl
                go_loopg [6, 7, 45] (bs.length + 1) (fun kq v6 v7 v45 w' => ∃ (i : Nat) (b b' m q : Int), v6 = .int .i64 b' ∧ v7 = .int .i64 m ∧ v45 = .int .i64 i ∧ i ≤ bs.length ∧ Aside0 (pickGo (bs.drop i) i (b, m, q) = pb) ∧ Aside0 ((b < 0 ∧ b' = 0 ∧ m = 0) ∨ (0 ≤ b ∧ b' = b ∧ 0 < m)) ∧ 0 ≤ m ∧ Aside0 (PalI w W1 g cap n post L1 (.slice (some ⟨gb, 0, none⟩) bs.length c5) bs w') ∧ Aside0 (w'.heap[gn]? = some (.cells #[.int .i64 q] 3 (0, 0))) ∧ kq = bs.length - i + 1)
                case atStart => exact ⟨0, -1, 0, 0, 0, rfl, rfl, rfl, by omega, ⟨by rw [HPB.out]; rfl⟩, ⟨.inl ⟨by omega, rfl, rfl⟩⟩, by omega, HI4, HNUM, rfl⟩
                case round =>
                  clear HI4 HNUM
                  obtain ⟨i, b, b', m, q, rfl, rfl, rfl, hi, HP, HBM, hm0, HI, HNUM, rfl⟩ := hrel
                  by_cases hli : i < bs.length
                  · obtain ⟨segs, L, hK⟩ := HI.out
                    obtain ⟨s, hs, hs2, hsc, hx, hxf, hC⟩ := hK.box HPC.out rfl hli
                    obtain ⟨box, hbox⟩ : ∃ box, box = bs.getD i [] := ⟨_, rfl⟩
                    rw [← hbox] at hs2 hC
                    have hbm : box ∈ bs := by rw [hbox, List.getD_eq_getElem?_getD, List.getElem?_eq_getElem hli]; exact List.getElem_mem hli
                    have hbl := HBO.out.2.1 box hbm
                    obtain ⟨kw, hkw⟩ := (impl_spread.ev box (HBO.out.1 box hbm) (by omega)).rounds
                    have hdr : bs.drop i = box :: bs.drop (i + 1) := by rw [List.drop_eq_getElem_cons hli, hbox, List.getD_eq_getElem?_getD, List.getElem?_eq_getElem hli]; rfl
                    have hp := HP.out
                    rw [hdr] at hp
                    simp only [pickGo] at hp
                    obtain ⟨d1, hd1⟩ : ∃ d1, d1 = (wideM box).1 := ⟨_, rfl⟩
                    obtain ⟨d2, hd2⟩ : ∃ d2, d2 = (wideM box).2 := ⟨_, rfl⟩
                    rw [← hd1, ← hd2] at hp
                    rw [hs2] at hx hsc hC
                    have HKW := Aside0.mk (show impl_spread.f kw box = some (d1, d2) by rw [hkw, hd1, hd2])
                    have HP2 := Aside0.mk hp
                    have HCC := Aside0.mk hC
                    have HSC := Aside0.mk hsc
                    have hn := blk_cell HNUM.out 0
                    have hnf := blk_frozen HNUM.out 0
                    simp at hn
                    clear hs hs2 hC hxf hbox hbm hkw hdr hp hd1 hd2 hbl hK hsc
                    by_cases hd : d1 > m
                    · have hp := HP2.out
                      rw [if_pos hd] at hp
                      have HP3 := Aside0.mk hp
                      have HD := Aside0.mk hd
                      have hdd : decide (d1 > m) = true := decide_eq_true hd
                      clear hp hd hn hnf
                      go_wp2_with fail
                      refine (impl_spread.calls kw _ _ box d1 d2 _ HCC.out HSC.out HKW.out).mono ?_
                      rintro e_ w5 ⟨rfl, hb5⟩
                      have HI5 := Aside0.mk (HI.out.below hb5)
                      have hn5 := blk_below HNUM.out hb5
                      have HN5 := Aside0.mk hn5
                      have hn := blk_cell hn5 0
                      have hnf := blk_frozen hn5 0
                      simp at hn
                      have HI6 := Aside0.mk (HI5.out.num HPC.out hn5 hgn (.int .i64 d2))
                      have HN6 : Aside0 ((w5.setCell ⟨gn, 0, none⟩ (.int .i64 d2)).heap[gn]? = some (.cells #[.int .i64 d2] 3 (0, 0))) := ⟨by rw [blk_set hn5]; rfl⟩
                      have hmd := HD.out
                      clear hb5 hn5
                      go_wp2
                      go_roundg (bs.length - (i + 1) + 1)
                      case rel => exact ⟨i + 1, i, i, d1, d2, rfl, rfl, by go_num, by omega, ⟨by rw [← HP3.out]; congr 1⟩, ⟨.inr ⟨by omega, rfl, by omega⟩⟩, by omega, HI6, HN6, rfl⟩
                      case measure => simp; omega
                    · have hp := HP2.out
                      rw [if_neg hd] at hp
                      have HP3 := Aside0.mk hp
                      have hdd : decide (d1 > m) = false := decide_eq_false hd
                      clear hp hn hnf
                      go_wp2_with fail
                      refine (impl_spread.calls kw _ _ box d1 d2 _ HCC.out HSC.out HKW.out).mono ?_
                      rintro e_ w5 ⟨rfl, hb5⟩
                      have HI5 := Aside0.mk (HI.out.below hb5)
                      have HN5 := Aside0.mk (blk_below HNUM.out hb5)
                      clear hb5
                      go_wp2
                      go_roundg (bs.length - (i + 1) + 1)
                      case rel => exact ⟨i + 1, b, b', m, q, rfl, rfl, by go_num, by omega, ⟨by rw [← HP3.out]; congr 1⟩, HBM, hm0, HI5, HN5, rfl⟩
                      case measure => simp; omega
                  · obtain rfl : i = bs.length := by omega
                    have hp := HP.out
                    rw [List.drop_length] at hp
                    simp only [pickGo] at hp
                    subst hp
                    simp only [] at hwide
                    by_cases hb0 : b < 0
                    · have hm : m = 0 := by have := HBM.out; omega
                      have hbm : (m == 0) = true := by rw [hm]; rfl
                      have hbm2 : m = 0 := hm
                      subst hm
                      have hpn : partM bs = none := by unfold partM; rw [← HPB.out, if_pos hb0]
                      have HPN := Aside0.mk hpn
                      clear hpn hb0 hbm hbm2
                      go_wp2_with fail
                      go_meet
                      case rel => exact ⟨bs, HI, HBO, ⟨by rw [← HG.out]; exact palGo_stopI _ _ _ (.inr HPN.out)⟩, hb1⟩
                    · obtain ⟨nb, rfl⟩ : ∃ nb : Nat, b = nb := ⟨b.toNat, by omega⟩
                      obtain ⟨hb'', hm1⟩ : b' = (nb : Int) ∧ 0 < m := by have := HBM.out; omega
                      subst hb''
                      have hmz : (m == 0) = false := by rw [beq_eq_false_iff_ne]; omega
                      have hmz2 : ¬ m = 0 := by omega
                      have hnb : nb < bs.length := by omega
                      obtain ⟨segs, L, hK⟩ := HI.out
                      obtain ⟨s, hs, hs2, hsc, hx, hxf, hC⟩ := hK.box HPC.out rfl hnb
                      have HK := Aside0.mk hK
                      have HS := Aside0.mk hs
                      have HS2 := Aside0.mk hs2
                      have hw2 := pickM_wide bs HBO.out.1 (by rw [← HPB.out]; simp only []; omega)
                      rw [← HPB.out] at hw2
                      simp only [Int.toNat_natCast] at hw2
                      rw [← hs2] at hw2
                      have hE := hK.env HPC.out (s := s) hwide.2.2.1 hwide.2.2.2 hgn HNUM.out
                      have hBP := hK.blk.part s.1 s.2
                      obtain ⟨e1, e2, e3⟩ := hK.segs.at_ nb s hs
                      have hsz := hK.segs.size
                      have hrl : s.2 = (run_ L s.1 s.2).length := by unfold run_; rw [List.length_take, List.length_drop]; omega
                      have hn1 := HPC.out.n1
                      have hc1 := HPC.out.cap1
                      have hpl : ((L.take s.1).map Prod.fst).length = s.1 := by rw [List.length_map, List.length_take]; omega
                      have hsort := sort_calls wr g gn q ((L.take s.1).map Prod.fst) ((L.drop (s.1 + s.2)).map Prod.fst ++ post) (run_ L s.1 s.2) (cap - s.1) s.2 hE hBP hrl hsc (by omega) (by omega)
                      rw [hpl] at hsort
                      have HSO := Aside0.mk hsort
                      have HE3 := Aside0.mk e3
                      have hs4 : s.2 ≤ 4096 := by omega
                      obtain ⟨s1, s2⟩ := s
                      simp only [] at HSO hx hsc hw2 hs4 ⊢
                      have HSC := Aside0.mk hsc
                      clear hs hs2 hE hBP e1 e2 e3 hsz hrl hpl hsort hC hK hmz hb0
                      go_wp2_with fail
                      refine HSO.out.mono ?_
                      rintro e_ w3 ⟨rfl, hsw, ys, hbk, hys, hal⟩
                      have hgb2 : W1.heap.size ≤ gb := Kd.R_base HK.out.row gb rfl
                      have hg1 := HPC.out.g1
                      have hgg : gb ≠ g := by omega
                      have hx3 : w3.cell? ⟨gb, nb, none⟩ = some (.slice (some ⟨g, s1, none⟩) s2 (cap - s1)) := (World.cell?_of_block (a := ⟨gb, nb, none⟩) (hsw.block gb hgg)).trans hx
                      have hf3 : w3.frozen? ⟨gb, nb, none⟩ = false := by
                        have : w3.frozen? ⟨gb, nb, none⟩ = wr.frozen? ⟨gb, nb, none⟩ := by simp [World.frozen?, hsw.block gb hgg]
                        rw [this]; exact hxf
                      obtain ⟨hh, hhe⟩ : ∃ hh, hh = s2 / 2 := ⟨_, rfl⟩
                      have hRS := HK.out.rowSet HPC.out rfl hnb HS.out hsw hh (cap - s1) (some ⟨g, s1, none⟩)
                      have h2 : 1 ≤ hh ∧ hh < s2 ∧ hh ≤ cap - s1 ∧ cap - s1 ≠ hh := by have := HSC.out; omega
                      obtain ⟨q1, q2, q3, q4⟩ := h2
                      have HRS := Aside0.mk hRS
                      have hsd : Aside0 ((s2 : Int) / 2 = (hh : Nat)) := ⟨by rw [hhe]; omega⟩
                      have HHE := Aside0.mk hhe
                      have HSW := Aside0.mk hsw
                      have HBK := Aside0.mk hbk
                      have HYS := Aside0.mk hys
                      have HAL := Aside0.mk hal
                      clear hhe hsw hbk hys hal hx hxf hRS hsc HI
                      go_upto_region 17 with (fail)
                      rw [hsd.out]
                      go_upto_region 18 with (fail)
                      have hW4 : ∃ W4, W4 = w3.setCell ⟨gb, nb, none⟩ (.slice (some ⟨g, s1, none⟩) hh (cap - s1)) := ⟨_, rfl⟩
                      obtain ⟨W4, hW4⟩ := hW4
                      rw [← hW4] at HRS ⊢
                      have HW4 := Aside0.mk hW4
                      have hgw4 : W1.heap.size ≤ W4.heap.size := by
                        rw [hW4]
                        have h1 := HK.out.keep.1
                        have h2 := HSW.out.size
                        simp only [World.size_setCell]
                        omega
                      clear hW4
                      go_wp2_with (first | ((with_reducible refine gate_builtin (b := .append) (xs := #[.tmp 80, .tmp 84]) rfl ?_); at_builtin; go_loud (refine Kd.R_append (Kd.raw 1) (w0 := W4) W1.heap.size rfl (.tmp 80) (.tmp 84) 126 36 (.slice none 0 0) 24 rfl Try.underlying126 info36 rfl (by decide) (by omega) (.slice (some ⟨gb, 0, none⟩) bs.length c5) ((segs.map (boxHdr g cap)).set nb [.slice (some ⟨g, s1, none⟩) hh (cap - s1)]) [.slice (some ⟨g, s1 + hh, none⟩) (s2 - hh) (cap - s1 - hh)] [.slice (some ⟨g, s1 + hh, none⟩) (s2 - hh) (cap - s1 - hh)] (fun _ => True) (fun _ => False) rfl rfl ⟨rfl, rfl, fun u hu => by rw [List.mem_singleton.1 hu]; rfl⟩ (fun _ hk => hk.elim) (fun _ _ => trivial) HRS.out (Below.refl _ _) hgw4 (by rw [List.length_set, List.length_map, HK.out.segs.len]; omega) ?_; intro v83 w6 ho hb hg hat); have HO6 := Aside0.mk ho; have HG6 := Aside0.mk hg; clear ho hb hg hat))
                      have HI6 : Aside0 (PalI w W1 g cap n post L1 v83 (bs.set nb ((ys.map Prod.snd).take hh) ++ [(ys.map Prod.snd).drop hh]) w6) := ⟨HK.out.sorted HPC.out rfl hnb HS.out HSW.out HBK.out HAL.out hh q1 q2 HW4.out (by have := HO6.out; rw [Nat.sub_sub] at this; exact this) HG6.out⟩
                      go_roundg (a1.toNat - (bs.length + 1) + 1)
                      case rel =>
                        obtain ⟨f', rfl⟩ : ∃ f', f = f' + 1 := ⟨f - 1, by omega⟩
                        have hyl : (ys.map Prod.snd).length = s2 := by
                          have h1 := HAL.out.1
                          have h2 := HK.out.segs.at_ nb (s1, s2) HS.out
                          have h3 := HK.out.segs.size
                          rw [List.length_map, h1]
                          unfold run_
                          rw [List.length_take, List.length_drop]
                          simp only [] at h2
                          omega
                        have hpm : partM bs = some (bs.set nb ((ys.map Prod.snd).take hh) ++ [(ys.map Prod.snd).drop hh]) := by
                          unfold partM
                          rw [← HPB.out]
                          simp only [Int.toNat_natCast]
                          have hy := HYS.out
                          rw [← HE3.out] at hy
                          rw [if_neg (by omega), ← hy, hyl, ← HHE.out]
                        have hpo := partM_ok HBO.out (by omega) hpm
                        refine ⟨_, f', HI6, ⟨hpo.1⟩, ⟨?_⟩, by rw [hpo.2]; omega, by rw [hpo.2]; omega, by rw [hpo.2]⟩
                        rw [← HG.out]
                        simp only [palGo]
                        rw [if_pos hlt, hpm]
                      case measure => simp; omega
              · go_wp2_with fail
                go_meet
                case rel => exact ⟨bs, HI, HBO, ⟨by rw [← HG.out]; exact palGo_stopI _ _ _ (.inl (by omega))⟩, hb1⟩
          case rest =>
            clear HI HBO
            obtain ⟨bs, HI, HBO, HG, hb1⟩ := hcut
            have HN := Aside0.mk (HI.out.N HPC.out hb1)
            have HB : Aside0 (Below w.heap.size w wc) := ⟨by obtain ⟨_, _, hk⟩ := HI.out; exact hk.bel⟩
            have hrl := HH.out
            rw [HG.out] at hrl
            have HRR := Aside0.mk hrl
            obtain ⟨gB, cb6, e6, hgB, hgl, _⟩ := Kd.N_form HN.out (by omega)
            subst e6
            clear hrl HI hgl
            go_wp2_with (first | ((with_reducible refine gate_dst (N := 86) rfl ?_); refine Kd.S_lit (w0 := w) dRow w.heap.size 22 ?hg (N := 86) ?hd (xs := ([] : List (List Int))) (inner := []) (ok := fun _ => True) (okp := fun _ => True) ?hr ?hp (fun _ hk => hk) trivial HB.out HB.out.size (by simp) ?_; (case hd => rfl); (case hg => rfl); (case hr => first | (go_simp; done) | (go_simp; rfl)); (case hp => exact (Reps.none _ _)); intro v15 w1 ho hb hg_ hnew_; have HO1 := Aside0.mk ho; have HB1 := Aside0.mk hb; have HN1 := Aside0.mk (Kd.N_mono (ok' := fun k => True ∧ some k ≠ (v15 : Value).ownBlock) (Kd.N_grown (Kd.N_bound HN.out) hg_ (fun _ _ => by simp)) (fun k hk => ⟨trivial, by obtain ⟨b, hb1, hb2⟩ := hnew_; rw [hb1]; intro e; injection e with e; have := hk.2; omega⟩)); clear ho hb hg_ hnew_))
            clear HN HB
            go_loopg [15, 89] (bs.length + 1) (fun kq v15 v89 w' => ∃ i : Nat, v89 = .int .i64 i ∧ i ≤ bs.length ∧ kq = bs.length - i + 1 ∧ Aside0 (Kd.S dRow 22 w' w.heap.size (fun _ => True) v15 ((bs.take i).map meanM)) ∧ Aside0 (Kd.N dBoxI 36 w' w.heap.size (fun k => True ∧ some k ≠ (v15 : Value).ownBlock) (.slice (some ⟨gB, 0, none⟩) bs.length cb6) bs) ∧ Aside0 (Below w.heap.size w w'))
            case atStart => exact ⟨0, rfl, by omega, rfl, ⟨by simpa using HO1.out⟩, HN1, HB1⟩
            case round =>
              clear HO1 HN1 HB1
              obtain ⟨i, rfl, hi, rfl, HO, HN, HB⟩ := hrel
              by_cases hli : i < bs.length
              · obtain ⟨c, hcl, hFK, hcc, hfr⟩ := Kd.N_elem HN.out [] (i : Int) (by omega) (by omega)
                obtain ⟨Ab, cb, rfl, hcb, hF⟩ := Kd.FK_slice_open hFK
                have hx := hcc 0 _ rfl
                rw [show dBoxI.sz = 1 from rfl, Int.toNat_natCast, Nat.mul_one, Nat.add_zero] at hx
                rw [Int.toNat_natCast] at hcb hF
                obtain ⟨box, hbox⟩ : ∃ box, box = bs.getD i [] := ⟨_, rfl⟩
                have hbm : box ∈ bs := by rw [hbox, List.getD_eq_getElem?_getD, List.getElem?_eq_getElem hli]; exact List.getElem_mem hli
                have hbl := HBO.out.2.1 box hbm
                have hb256 := HBO.out.2.2
                have HPXB := Aside0.mk (HBO.out.1 box hbm)
                have HTK := Aside0.mk (show (bs.take (i + 1)).map meanM = (bs.take i).map meanM ++ [meanM box] by rw [List.take_succ_eq_append_getElem hli, List.map_append, hbox, List.getD_eq_getElem?_getD, List.getElem?_eq_getElem hli]; rfl)
                rw [← hbox] at hx hcb hF
                obtain ⟨Nb, hNb⟩ : ∃ Nb, Nb = wr.heap.size := ⟨_, rfl⟩
                have HSb := Aside0.mk (show Kd.S dRow 22 wr w.heap.size (fun k => k < Nb) u15 ((bs.take i).map meanM) from Kd.S_mono (Kd.S_bound HO.out) (fun k hk => by rw [hNb]; exact hk.2.2.1))
                have HNb := Aside0.mk (show Nb ≤ wr.heap.size by omega)
                have HNw := Aside0.mk (Kd.N_mono (ok' := fun k => (True ∧ some k ≠ (u15 : Value).ownBlock) ∧ k < Nb) (Kd.N_bound HN.out) (fun k hk => ⟨hk.1, by rw [hNb]; exact hk.2⟩))
                have HFw := Aside0.mk (Kd.F_mono (ok' := fun k => k < Nb) (Kd.F_bound hF) (fun k hk => by rw [hNb]; exact hk.2))
                have HCB := Aside0.mk hcb
                clear hbox hbm HO hNb hcl hFK hcc hfr hcb hF HN
                go_wp2_with (first | ((with_reducible refine gate_dst (N := 93) rfl ?_); refine Kd.R_lit (w0 := w) (Kd.int .i64) w.heap.size 3 ?hg (N := 93) ?hd (xs := ([] : List Int)) (inner := []) (ok := fun k => Nb ≤ k) (okp := fun _ => False) ?hr ?hp (fun _ hk => hk.elim) HNb.out HB.out HB.out.size (by simp) ?_; (case hd => rfl); (case hg => rfl); (case hr => first | (go_simp; done) | (go_simp; rfl)); (case hp => exact (Reps.none _ _)); intro v18 w1 ho hb hg_ hnew_; have HP1 := Aside0.mk ho; have HB1 := Aside0.mk hb; have HS1 := Aside0.mk (Kd.S_grown HSb.out hg_ (fun _ _ => by simp)); have HN1 := Aside0.mk (Kd.N_grown HNw.out hg_ (fun _ _ => by simp)); have HF1 := Aside0.mk (Kd.F_grown HFw.out hg_ (fun _ _ => by simp)); have HNb1 := Aside0.mk (Nat.le_trans HNb.out hg_.size); clear ho hb hg_ hnew_))
                clear HB HSb HNb HNw HFw
                go_loopg [18, 94] (4) (fun kq v18 v94 w' => ∃ j : Nat, v94 = .int .i64 j ∧ j ≤ 3 ∧ kq = 3 - j + 1 ∧ Aside0 (Kd.R (Kd.int .i64) 3 w' w.heap.size (fun k => Nb ≤ k) v18 ((meanM box).take j)) ∧ Aside0 (Kd.S dRow 22 w' w.heap.size (fun k => k < Nb) u15 ((bs.take i).map meanM)) ∧ Aside0 (Kd.N dBoxI 36 w' w.heap.size (fun k => (True ∧ some k ≠ (u15 : Value).ownBlock) ∧ k < Nb) (.slice (some ⟨gB, 0, none⟩) bs.length cb6) bs) ∧ Aside0 (Kd.F dRow w' (fun k => k < Nb) Ab box.length box) ∧ Aside0 (Below w.heap.size w w') ∧ Aside0 (Nb ≤ w'.heap.size))
                case atStart => exact ⟨0, rfl, by omega, rfl, HP1, HS1, HN1, HF1, HB1, HNb1⟩
                case round =>
                  clear HP1 HS1 HN1 HF1 HB1 HNb1
                  obtain ⟨j, rfl, hj, rfl, HP, HS, HN, HF, HB, HNb⟩ := hrel
                  by_cases hlj : j < 3
                  · have hsum := sumJ_in j (by omega) (by omega) box HPXB.out
                    go_wp2_with fail
                    go_loopg [20, 99] (box.length + 1) (fun kq v20 v99 w' => ∃ k : Nat, v99 = .int .i64 k ∧ k ≤ box.length ∧ v20 = .int .i64 (sumJ j (box.take k)) ∧ kq = box.length - k + 1 ∧ Aside0 (w' = wr))
                    case atStart => exact ⟨0, rfl, by omega, rfl, rfl, ⟨rfl⟩⟩
                    case round =>
                      obtain ⟨k, rfl, hk, rfl, rfl, HW⟩ := hrel
                      obtain rfl := HW.out
                      by_cases hlk : k < box.length
                      · obtain ⟨ad, A1, c1, e1, hy, hl1, hi1⟩ := at_L3 (Kd.F_now HF.out) (k : Int) (by omega) (by omega)
                        cases e1
                        rw [Int.toNat_natCast] at hy
                        have hgl : rd_L3 box k = box[k] := by simp [rd_L3, hlk]
                        rw [hgl] at hy hl1 hi1
                        have hpx := px_rd (HPXB.out _ (List.getElem_mem hlk)) j (by omega) (by omega)
                        obtain ⟨ap, e2, hz⟩ := Kd.at_int hi1 (j : Int) (by omega) (by omega)
                        cases e2
                        rw [Int.toNat_natCast] at hz
                        have hst := sumJ_take j box k hlk
                        have htk := sumJ_in j (by omega) (by omega) (box.take k) (fun q hq => HPXB.out q (List.mem_of_mem_take hq))
                        have htl : (box.take k).length ≤ k := by rw [List.length_take]; omega
                        obtain ⟨sm, hsm⟩ : ∃ sm, sm = sumJ j (box.take k) := ⟨_, rfl⟩
                        obtain ⟨pv, hpv⟩ : ∃ pv, pv = rd box[k] j := ⟨_, rfl⟩
                        rw [← hsm, ← hpv] at hst
                        rw [← hsm] at htk ⊢
                        rw [← hpv] at hz hpx
                        have hw1 : wrap64 (sm + pv) = sm + pv := wrap_in _ (by omega) (by omega)
                        have hpl := hpx.2.2
                        rw [hpl] at hy
                        have HST := Aside0.mk hst
                        have h3 : (3 : Nat) = 3 := rfl
                        clear hgl hl1 hi1 hst hsm hpv hpx h3 htk htl hpl HW
                        go_wp2
                        go_roundg (box.length - (k + 1) + 1)
                        case rel => exact ⟨k + 1, by go_num, by omega, by rw [HST.out, hw1], rfl, ⟨rfl⟩⟩
                        case measure => simp; omega
                      · obtain rfl : k = box.length := by omega
                        rw [List.take_length]
                        have HRV := Aside0.mk (impl_rounded.val (sumJ j box) box.length hsum.1 (by omega) (by omega) (by omega))
                        obtain ⟨rv, hrv⟩ : ∃ rv, rv = rndM (sumJ j box) box.length := ⟨_, rfl⟩
                        rw [← hrv] at HRV
                        have HMT := Aside0.mk (meanM_take box j hlj)
                        rw [← hrv] at HMT
                        have hml : ((meanM box).take j).length ≤ 3 := by rw [List.length_take]; omega
                        clear hrv HW
                        go_wp2_with fail
                        refine (impl_rounded.calls (sumJ j box) box.length rv _ HRV.out).mono ?_
                        rintro e_ w_ ⟨rfl, ⟨nd5, rfl⟩⟩
                        have HP5 := Aside0.mk (Kd.R_drewN HP.out nd5)
                        have HS5 := Aside0.mk (Kd.S_drewN HS.out nd5)
                        have HN5 := Aside0.mk (Kd.N_drewN HN.out nd5)
                        have HF5 := Aside0.mk (Kd.F_drewN HF.out nd5)
                        have HB5 := Aside0.mk (pw_below_drewN HB.out nd5)
                        have HNb5 : Aside0 (Nb ≤ (wr.drewN nd5).heap.size) := ⟨HNb.out⟩
                        have hnn := HNb5.out
                        generalize wr.drewN nd5 = w5 at HP5 HS5 HN5 HF5 HB5 HNb5 hnn ⊢
                        clear HP HS HN HF HB HNb
                        go_wp2_with (first | ((with_reducible refine gate_builtin (b := .append) (xs := #[.tmp 110, .tmp 115]) rfl ?_); at_builtin; go_loud (refine Kd.R_append (Kd.int .i64) (w0 := w) w.heap.size rfl (.tmp 110) (.tmp 115) 22 3 (.int .i64 0) 8 rfl Try.underlying22 info3 rfl (by decide) (by omega) _ ((meanM box).take j) rv [.int .i64 rv] (fun k => Nb ≤ k) (fun _ => False) rfl rfl rfl (fun _ hk => hk.elim) (fun k hk => by omega) HP5.out HB5.out HB5.out.size (by omega) ?_; intro v116 w6 ho hb hg hat); have HP6 := Aside0.mk ho; have HB6 := Aside0.mk hb; have HG6 := Aside0.mk hg; clear ho hb hg hat))
                        have HPo := Aside0.mk (show ∀ k, Value.ownBlock u18 = some k → Nb ≤ k from HP5.out.1)
                        go_roundg (3 - (j + 1) + 1)
                        case rel =>
                          refine ⟨j + 1, by go_num, by omega, rfl, ⟨by rw [HMT.out]; exact HP6.out⟩, ⟨Kd.S_grown HS5.out HG6.out (fun k hk e => by have := HPo.out k e.symm; omega)⟩, ⟨Kd.N_grown HN5.out HG6.out (fun k hk e => by have := HPo.out k e.symm; have := hk.2; omega)⟩, ⟨Kd.F_grown HF5.out HG6.out (fun k hk e => by have := HPo.out k e.symm; omega)⟩, HB6, ⟨Nat.le_trans HNb5.out HG6.out.size⟩⟩
                        case measure => simp; omega
                  · obtain rfl : j = 3 := by omega
                    have HP3 := Aside0.mk (show Kd.R (Kd.int .i64) 3 wr w.heap.size (fun k => Nb ≤ k) u18 (meanM box) from HP.out)
                    obtain ⟨A18, c18, e18⟩ := Kd.R_slice HP3.out
                    have hm3 : (meanM box).length = 3 := rfl
                    rw [hm3] at e18
                    subst e18
                    clear hm3
                    have hmo := Kd.M_row HP3.out
                    have HMO := Aside0.mk hmo
                    clear hmo HP HF
                    go_wp2_with (first | ((with_reducible refine gate_builtin (b := .append) (xs := #[.tmp 118, .tmp 120]) rfl ?_); at_builtin; go_loud (refine Kd.S_append dRow (w0 := w) w.heap.size rfl (.tmp 118) (.tmp 120) 36 22 (.slice none 0 0) 24 rfl Try.underlying36 info22 rfl (by decide) (by omega) u15 ((bs.take i).map meanM) (meanM box) [.slice A18 3 c18] (fun _ => True) (fun k => Nb ≤ k) rfl rfl HMO.out (fun k hk => ⟨trivial, fun e => by have := (Kd.S_R HS.out).1 k e.symm; omega⟩) (fun _ _ => trivial) (Kd.S_mono HS.out (fun k hk => ⟨trivial, by omega⟩)) HB.out HB.out.size (by rw [List.length_map, List.length_take]; have := HBO.out.2.2; omega) ?_; intro v121 w6 ho hb hg hat); have HO6 := Aside0.mk ho; have HB6 := Aside0.mk hb; have HG6 := Aside0.mk (Kd.N_after (Kd.N_mono (ok' := (fun k => True ∧ some k ≠ (u15 : Value).ownBlock)) HN.out (fun k hk => hk.1)) hg hat); clear ho hb hg hat))
                    go_roundg (bs.length - (i + 1) + 1)
                    case rel =>
                      refine ⟨i + 1, by go_num, by omega, rfl, ⟨by rw [HTK.out]; exact HO6.out⟩, HG6, HB6⟩
                    case measure => simp; omega
              · obtain rfl : i = bs.length := by omega
                go_wp2
                go_ret
                have := HRR.out
                rw [← this]
                exact ⟨_, rfl, by have h1 := HO.out; rwa [List.take_length] at h1, HB.out⟩
  · cases h
theorem impl_Palette.calls (A0 : Option Addr) (c0 : Nat) (l0 : List (List Int)) (a1 : Int) (r : List (List Int)) (w : World) (hr0 : Kd.C (Kd.slice 3 (Kd.int .i64)) w A0 l0.length l0) (hc0 : l0.length ≤ c0) (h : impl_Palette.f l0 a1 = some r) :
    Calls Try.prog 53 #[.slice A0 l0.length c0, .int .i64 a1] w fun e w' => ∃ v0_ : Value, e = .returned v0_ ∧ Kd.S (Kd.slice 3 (Kd.int .i64)) 22 w' w.heap.size (fun _ => True) v0_ r ∧ Below w.heap.size w w' :=
  (impl_Palette.callsS A0 c0 l0 a1 r w hr0 hc0 h).mono fun _ _ ⟨v, he, hs, hb⟩ => ⟨v, he, ( hs), hb⟩
end Go.Proofs.Ytcjjmfpkhhdmlaa.G

namespace Go.Proofs.Ytcjjmfpkhhdmlaa.G
open Go.RowKit Go.Proofs.YtcjjmfpkhhdmlaaW.PrintWords Go.Proofs.YtcjjmfpkhhdmlaaW.PrintLast Go.Proofs.YtcjjmfpkhhdmlaaW.PrintMore
attribute [local go_sem] max2_int min2_int max_two min_two max_three min_three max_four min_four   -- for this text's walks alone
/-! ### laws_heldIntS: function 23 -/
def laws_heldIntS.l0 : Nat → List Int → Int → Int → Option (Int)
  | 0, _, _, _ => none
  | k + 1, x0, x1, x5 => if x5 < (x0.length : Int) then (if 0 ≤ x5 then (if (rd x0 x5) = x1 then (laws_heldIntS.l0 k x0 (wrap64 (x1 + 1)) (wrap64 (x5 + 1))) else (some (-1))) else (none)) else (some x1)
def laws_heldIntS.f (k : Nat) (l0 : List Int) (a1 : Int) : Option (Int) := laws_heldIntS.l0 k l0 a1 0
theorem laws_heldIntS.mono_l : ∀ k, (∀ y0 y1 y2, LeO (laws_heldIntS.l0 k y0 y1 y2) (laws_heldIntS.l0 (k + 1) y0 y1 y2))
  | 0 => fun _ _ _ r h => by simp [laws_heldIntS.l0] at h
  | k + 1 => by
    have ih0 := laws_heldIntS.mono_l k
    · intro y0 y1 y2
      unfold laws_heldIntS.l0
      repeat' first
      | (with_reducible exact ih0 _ _ _)
      | (with_reducible exact LeO.refl _)
      | (with_reducible exact LeO.none _)
      | (with_reducible refine LeO.ite ?_ ?_)
      | (with_reducible refine LeO.bind ?_ (fun _ => ?_))
      | exact ih0 _ _ _
      | exact LeO.none _
      | refine LeO.ite ?_ ?_
      | refine LeO.bind ?_ (fun _ => ?_)
theorem laws_heldIntS.mono : ∀ a0 a1 k, LeO (laws_heldIntS.f k a0 a1) (laws_heldIntS.f (k + 1) a0 a1) := by
  intro a0 a1 k
  have ih0 := laws_heldIntS.mono_l k
  unfold laws_heldIntS.f
  repeat' first
      | (with_reducible exact ih0 _ _ _)
      | (with_reducible exact LeO.refl _)
      | (with_reducible exact LeO.none _)
      | (with_reducible refine LeO.ite ?_ ?_)
      | (with_reducible refine LeO.bind ?_ (fun _ => ?_))
      | exact ih0 _ _ _
      | exact LeO.none _
      | refine LeO.ite ?_ ?_
      | refine LeO.bind ?_ (fun _ => ?_)
set_option maxHeartbeats 8000000 in
set_option maxRecDepth 100000 in
theorem laws_heldIntS.calls (k : Nat) (A0 : Option Addr) (c0 : Nat) (l0 : List Int) (a1 : Int) (r : Int) (w : World) (hr0 : Kd.C (Kd.int .i64) w A0 l0.length l0) (hc0 : l0.length ≤ c0) (h : laws_heldIntS.f k l0 a1 = some r) :
    Calls Try.prog 23 #[.slice A0 l0.length c0, .int .i64 a1] w fun e w' => e = .returned (.int .i64 r) ∧ Drawn0 w w' := by
  have HR0 := Aside0.mk hr0
  have HC0 := Aside0.mk hc0
  clear hr0 hc0
  have H : (laws_heldIntS.l0 k l0 a1 0) = some r := h
  clear h
  have H' := Aside0.mk H
  clear H
  go_enter Try.func23, Try.ntmps23
  go_wp2
  go_loopg [1, 5] k (fun kq v1 v5 w' => ∃ (x1_1 : Int) (x5_1 : Int), v1 = .int .i64 x1_1 ∧ v5 = .int .i64 x5_1 ∧ Aside0 (laws_heldIntS.l0 kq l0 x1_1 x5_1 = some r) ∧ Aside0 (kq ≤ k) ∧ Drawn0 w w')
  case atStart => exact ⟨(a1), (0), (by first | rfl | (simp; done) | (simp [*]; done)), (by first | rfl | (simp; done) | (simp [*]; done)), H', ⟨Nat.le_refl _⟩, by repeat (first | exact Drawn0.refl _ | apply Drawn0.step)⟩
  case round =>
    clear H'
    try clear c2
    try clear p2
    obtain ⟨x1_1, x5_1, rfl, rfl, HA, HK1, ⟨m1, rfl⟩⟩ := hrel
    cases gk with
    | zero => exact absurd HA.out (by simp [laws_heldIntS.l0])
    | succ k1 =>
      have H := HA.out
      clear HA
      simp only [laws_heldIntS.l0] at H
      by_cases c3 : x5_1 < (l0.length : Int)
      · rw [if_pos c3] at H
        have c3b0 : decide (x5_1 < (l0.length : Int)) = true := decide_eq_true c3
        clear c3
        by_cases c4 : 0 ≤ x5_1
        · rw [if_pos c4] at H
          have c4b0 : decide (0 ≤ x5_1) = true := decide_eq_true c4
          clear c4
          by_cases c5 : (rd l0 x5_1) = x1_1
          · rw [if_pos c5] at H
            have c5b0 : ((rd l0 x5_1) == x1_1) = true := beq_iff_eq.mpr c5
            have c5b1 : ((rd l0 x5_1) != x1_1) = false := bne_eq_false_iff_eq.mpr c5
            clear c5
            have H' := Aside0.mk H
            clear H
            have p148 : 0 ≤ (x5_1 : Int) := of_decide_eq_true (by first | (with_reducible assumption) | assumption)
            have q148 : x5_1 < (l0.length : Int) := of_decide_eq_true (by first | (with_reducible assumption) | assumption)
            obtain ⟨ad148, e148, hx148_0⟩ := Kd.at_int HR0.out x5_1 p148 q148
            cases e148
            replace p148 := eq_true p148
            replace q148 := eq_true q148
            go_wp2
            go_roundg k1
            case measure => have := HK1.out; omega
            case rel => exact ⟨(wrap64 (x1_1 + 1)), (wrap64 (x5_1 + 1)), (by first | rfl | (simp; done) | (simp [*]; done)), (by first | rfl | (simp; done) | (simp [*]; done)), H', ⟨by have := HK1.out; omega⟩, by repeat (first | exact Drawn0.refl _ | apply Drawn0.step)⟩
          · rw [if_neg c5] at H
            have c5b0 : ((rd l0 x5_1) == x1_1) = false := beq_eq_false_iff_ne.mpr c5
            have c5b1 : ((rd l0 x5_1) != x1_1) = true := bne_iff_ne.mpr c5
            obtain rfl := Option.some.inj H
            have p148 : 0 ≤ (x5_1 : Int) := of_decide_eq_true (by first | (with_reducible assumption) | assumption)
            have q148 : x5_1 < (l0.length : Int) := of_decide_eq_true (by first | (with_reducible assumption) | assumption)
            obtain ⟨ad148, e148, hx148_0⟩ := Kd.at_int HR0.out x5_1 p148 q148
            cases e148
            replace p148 := eq_true p148
            replace q148 := eq_true q148
            go_wp2
            go_ret
            exact ⟨by first | rfl | (simp; done) | (simp [*]; done), by repeat (first | exact Drawn0.refl _ | apply Drawn0.step)⟩
        · rw [if_neg c4] at H
          exact absurd H (by simp)
      · rw [if_neg c3] at H
        have c3b0 : decide (x5_1 < (l0.length : Int)) = false := decide_eq_false c3
        clear c3
        obtain rfl := Option.some.inj H
        go_wp2
        go_ret
        exact ⟨by first | rfl | (simp; done) | (simp [*]; done), by repeat (first | exact Drawn0.refl _ | apply Drawn0.step)⟩
theorem laws_heldIntS.E (a : Int) (n : Nat) (h0 : 0 ≤ a) (h1 : a ≤ 1125899906842624) (hl : n ≤ 1048576) : Ev (fun k => laws_heldIntS.f k (rising a n) a) (a + n) := by
  unfold laws_heldIntS.f
  have key : ∀ d i : Nat, n - i = d → i ≤ n → Ev (fun k => laws_heldIntS.l0 k (rising a n) (a + i) (i : Int)) (a + n) := by
    intro d
    induction d with
    | zero =>
      intro i hd hi
      obtain rfl : i = n := by omega
      exact Ev.step (fun _ => by rw [laws_heldIntS.l0]) (Ev.ng (by simp [rising_length]) (Ev.now _))
    | succ d ih =>
      intro i hd hi
      have hlt : i < n := by omega
      refine Ev.step (fun _ => by rw [laws_heldIntS.l0]) (Ev.ip (by simp [rising_length]; omega) (Ev.ip (by omega) (Ev.ip ?_ ?_)))
      · rw [rd_nat _ i (by rw [rising_length]; omega), rising_get]
      · rw [wrap_in (a + i + 1) (by omega) (by omega), wrap_succ i (by omega), show a + i + 1 = a + ((i + 1 : Nat) : Int) by omega]
        exact ih (i + 1) (by omega) (by omega)
  have := key _ 0 rfl (by omega)
  simpa using this
theorem laws_heldIntS.R (k : Nat) (A0 : Option Addr) (n c0 : Nat) (l0 : List Int) (a1 : Int) (r : Int) (w : World) (base : Nat) (ok : Nat → Prop) (hr0 : Kd.R (Kd.int .i64) 3 w base ok (.slice A0 n c0) l0) (h : laws_heldIntS.f k l0 a1 = some r) :
    Calls Try.prog 23 #[.slice A0 n c0, .int .i64 a1] w fun e w' => e = .returned (.int .i64 r) ∧ Drawn0 w w' := by
  obtain ⟨rfl, h1, h2⟩ := Kd.R_reads' hr0
  exact laws_heldIntS.calls k A0 c0 l0 a1 r w h2 h1 h
end Go.Proofs.Ytcjjmfpkhhdmlaa.G

namespace Go.Proofs.Ytcjjmfpkhhdmlaa.G
open Go.RowKit Go.Proofs.YtcjjmfpkhhdmlaaW.PrintWords Go.Proofs.YtcjjmfpkhhdmlaaW.PrintLast Go.Proofs.YtcjjmfpkhhdmlaaW.PrintMore
attribute [local go_sem] max2_int min2_int max_two min_two max_three min_three max_four min_four   -- for this text's walks alone
/-! ### laws_heldIntSS: function 54 -/
def laws_heldIntSS.l0 : Nat → List (List Int) → Int → Int → Option (Int)
  | 0, _, _, _ => none
  | k + 1, x0, x1, x5 => if x5 < (x0.length : Int) then (if 0 ≤ x5 then ((laws_heldIntS.f k (rd_L3 x0 x5) x1).bind fun t928 => (if t928 < 0 then (some (-1)) else (laws_heldIntSS.l0 k x0 t928 (wrap64 (x5 + 1))))) else (none)) else (some x1)
def laws_heldIntSS.f (k : Nat) (l0 : List (List Int)) (a1 : Int) : Option (Int) := laws_heldIntSS.l0 k l0 a1 0
theorem laws_heldIntSS.mono_l : ∀ k, (∀ y0 y1 y2, LeO (laws_heldIntSS.l0 k y0 y1 y2) (laws_heldIntSS.l0 (k + 1) y0 y1 y2))
  | 0 => fun _ _ _ r h => by simp [laws_heldIntSS.l0] at h
  | k + 1 => by
    have ih0 := laws_heldIntSS.mono_l k
    · intro y0 y1 y2
      unfold laws_heldIntSS.l0
      repeat' first
      | (with_reducible exact ih0 _ _ _)
      | (with_reducible exact laws_heldIntS.mono _ _ _)
      | (with_reducible exact LeO.refl _)
      | (with_reducible exact LeO.none _)
      | (with_reducible refine LeO.ite ?_ ?_)
      | (with_reducible refine LeO.bind ?_ (fun _ => ?_))
      | exact ih0 _ _ _
      | exact laws_heldIntS.mono _ _ _
      | exact LeO.none _
      | refine LeO.ite ?_ ?_
      | refine LeO.bind ?_ (fun _ => ?_)
theorem laws_heldIntSS.mono : ∀ a0 a1 k, LeO (laws_heldIntSS.f k a0 a1) (laws_heldIntSS.f (k + 1) a0 a1) := by
  intro a0 a1 k
  have ih0 := laws_heldIntSS.mono_l k
  unfold laws_heldIntSS.f
  repeat' first
      | (with_reducible exact ih0 _ _ _)
      | (with_reducible exact laws_heldIntS.mono _ _ _)
      | (with_reducible exact LeO.refl _)
      | (with_reducible exact LeO.none _)
      | (with_reducible refine LeO.ite ?_ ?_)
      | (with_reducible refine LeO.bind ?_ (fun _ => ?_))
      | exact ih0 _ _ _
      | exact laws_heldIntS.mono _ _ _
      | exact LeO.none _
      | refine LeO.ite ?_ ?_
      | refine LeO.bind ?_ (fun _ => ?_)
set_option maxHeartbeats 8000000 in
set_option maxRecDepth 100000 in
theorem laws_heldIntSS.calls (k : Nat) (A0 : Option Addr) (c0 : Nat) (l0 : List (List Int)) (a1 : Int) (r : Int) (w : World) (hr0 : Kd.C (Kd.slice 3 (Kd.int .i64)) w A0 l0.length l0) (hc0 : l0.length ≤ c0) (h : laws_heldIntSS.f k l0 a1 = some r) :
    Calls Try.prog 54 #[.slice A0 l0.length c0, .int .i64 a1] w fun e w' => e = .returned (.int .i64 r) ∧ Drawn0 w w' := by
  have HR0 := Aside0.mk hr0
  have HC0 := Aside0.mk hc0
  clear hr0 hc0
  have H : (laws_heldIntSS.l0 k l0 a1 0) = some r := h
  clear h
  have H' := Aside0.mk H
  clear H
  go_enter Try.func54, Try.ntmps54
  go_wp2
  go_loopg [1, 5] k (fun kq v1 v5 w' => ∃ (x1_1 : Int) (x5_1 : Int), v1 = .int .i64 x1_1 ∧ v5 = .int .i64 x5_1 ∧ Aside0 (laws_heldIntSS.l0 kq l0 x1_1 x5_1 = some r) ∧ Aside0 (kq ≤ k) ∧ Drawn0 w w')
  case atStart => exact ⟨(a1), (0), (by first | rfl | (simp; done) | (simp [*]; done)), (by first | rfl | (simp; done) | (simp [*]; done)), H', ⟨Nat.le_refl _⟩, by repeat (first | exact Drawn0.refl _ | apply Drawn0.step)⟩
  case round =>
    clear H'
    try clear p2
    obtain ⟨x1_1, x5_1, rfl, rfl, HA, HK1, ⟨m1, rfl⟩⟩ := hrel
    cases gk with
    | zero => exact absurd HA.out (by simp [laws_heldIntSS.l0])
    | succ k1 =>
      have H := HA.out
      clear HA
      simp only [laws_heldIntSS.l0] at H
      by_cases c3 : x5_1 < (l0.length : Int)
      · rw [if_pos c3] at H
        have c3b0 : decide (x5_1 < (l0.length : Int)) = true := decide_eq_true c3
        clear c3
        by_cases c4 : 0 ≤ x5_1
        · rw [if_pos c4] at H
          have c4b0 : decide (0 ≤ x5_1) = true := decide_eq_true c4
          clear c4
          replace H := Option.bind_eq_some_iff.mp H
          obtain ⟨t928, A50, H⟩ := H
          replace H : (if t928 < 0 then (some (-1)) else (laws_heldIntSS.l0 k1 l0 t928 (wrap64 (x5_1 + 1)))) = some r := H
          have A5 := Aside0.mk A50
          clear A50
          by_cases c6 : t928 < 0
          · rw [if_pos c6] at H
            have c6b0 : decide (t928 < 0) = true := decide_eq_true c6
            clear c6
            obtain rfl := Option.some.inj H
            have p927 : 0 ≤ (x5_1 : Int) := of_decide_eq_true (by first | (with_reducible assumption) | assumption)
            have q927 : x5_1 < (l0.length : Int) := of_decide_eq_true (by first | (with_reducible assumption) | assumption)
            obtain ⟨ad927, A927_0, c927_0, e927, hx927_0, hl927_0, hi927_0⟩ := at_L3 HR0.out x5_1 p927 q927
            cases e927
            have HR927_0 := Aside0.mk hi927_0
            have HC927_0 := Aside0.mk hl927_0
            clear hi927_0 hl927_0
            replace p927 := eq_true p927
            replace q927 := eq_true q927
            go_wp2_with (first | ((with_reducible refine gate_callee (f := 23) rfl ?_); refine goesL_ (some 17) rfl rfl Try.func23 (by kernel_rfl) rfl #[.slice A927_0 (rd_L3 l0 x5_1).length c927_0, .int .i64 x1_1] rfl (by (try simp only [List.map_toArray, List.map_cons, List.map_nil]); first | done | rfl | (simp only [List.length_drop, List.length_take]; rfl)) ?_; (with_reducible refine (laws_heldIntS.calls k1 _ _ (rd_L3 l0 x5_1) x1_1 t928 _ ?side1 ?side2 A5.out).mono ?_); (case side1 => repeat (first | exact HR927_0.out | (with_reducible refine Kd.C_alloc ?_ _) | (with_reducible refine Kd.C_drewN ?_ _) | (with_reducible refine Kd.C_drew ?_))); (case side2 => exact HC927_0.out); rintro e w' ⟨rfl, ⟨nd, rfl⟩⟩; refine ⟨_, rfl, ?_⟩))
            go_ret
            exact ⟨by first | rfl | (simp; done) | (simp [*]; done), by repeat (first | exact Drawn0.refl _ | apply Drawn0.step)⟩
          · rw [if_neg c6] at H
            have c6b0 : decide (t928 < 0) = false := decide_eq_false c6
            clear c6
            have H' := Aside0.mk H
            clear H
            have p927 : 0 ≤ (x5_1 : Int) := of_decide_eq_true (by first | (with_reducible assumption) | assumption)
            have q927 : x5_1 < (l0.length : Int) := of_decide_eq_true (by first | (with_reducible assumption) | assumption)
            obtain ⟨ad927, A927_0, c927_0, e927, hx927_0, hl927_0, hi927_0⟩ := at_L3 HR0.out x5_1 p927 q927
            cases e927
            have HR927_0 := Aside0.mk hi927_0
            have HC927_0 := Aside0.mk hl927_0
            clear hi927_0 hl927_0
            replace p927 := eq_true p927
            replace q927 := eq_true q927
            go_wp2_with (first | ((with_reducible refine gate_callee (f := 23) rfl ?_); refine goesL_ (some 17) rfl rfl Try.func23 (by kernel_rfl) rfl #[.slice A927_0 (rd_L3 l0 x5_1).length c927_0, .int .i64 x1_1] rfl (by (try simp only [List.map_toArray, List.map_cons, List.map_nil]); first | done | rfl | (simp only [List.length_drop, List.length_take]; rfl)) ?_; (with_reducible refine (laws_heldIntS.calls k1 _ _ (rd_L3 l0 x5_1) x1_1 t928 _ ?side1 ?side2 A5.out).mono ?_); (case side1 => repeat (first | exact HR927_0.out | (with_reducible refine Kd.C_alloc ?_ _) | (with_reducible refine Kd.C_drewN ?_ _) | (with_reducible refine Kd.C_drew ?_))); (case side2 => exact HC927_0.out); rintro e w' ⟨rfl, ⟨nd, rfl⟩⟩; refine ⟨_, rfl, ?_⟩))
            go_roundg k1
            case measure => have := HK1.out; omega
            case rel => exact ⟨(t928), (wrap64 (x5_1 + 1)), (by first | rfl | (simp; done) | (simp [*]; done)), (by first | rfl | (simp; done) | (simp [*]; done)), H', ⟨by have := HK1.out; omega⟩, by repeat (first | exact Drawn0.refl _ | apply Drawn0.step)⟩
        · rw [if_neg c4] at H
          exact absurd H (by simp)
      · rw [if_neg c3] at H
        have c3b0 : decide (x5_1 < (l0.length : Int)) = false := decide_eq_false c3
        clear c3
        obtain rfl := Option.some.inj H
        go_wp2
        go_ret
        exact ⟨by first | rfl | (simp; done) | (simp [*]; done), by repeat (first | exact Drawn0.refl _ | apply Drawn0.step)⟩
theorem laws_heldIntSS.E (a : Int) (l : List (List Int)) (h0 : 0 ≤ a) (h1 : a ≤ 562949953421312) (hl : l.length ≤ 1048576) (hx : ∀ x ∈ l, x.length ≤ 1048576) : Ev (fun k => laws_heldIntSS.f k (risingSS a l) a) (a + total l) := by
  unfold laws_heldIntSS.f
  have key : ∀ (s p : List (List Int)) (R : List (List Int)) (b : Int), R = p ++ risingSS b s → b = a + total p → p.length + s.length ≤ 1048576 → (∀ x ∈ p, x.length ≤ 1048576) → (∀ x ∈ s, x.length ≤ 1048576) → Ev (fun k => laws_heldIntSS.l0 k R b (p.length : Int)) (b + total s) := by
    intro s
    induction s with
    | nil =>
      intro p R b hR hb hl hp hs
      have e : R.length = p.length := by rw [hR]; simp [risingSS]
      exact Ev.step (fun _ => by rw [laws_heldIntSS.l0]) (Ev.ng (by omega) (Ev.eq (Ev.now _) (by simp [total])))
    | cons x s ih =>
      intro p R b hR hb hl hp hs
      have hxl := hs x List.mem_cons_self
      have htp := total_le p hp
      have hm : p.length * 1048576 ≤ 1048576 * 1048576 := Nat.mul_le_mul_right _ (by omega)
      have e : R.length = p.length + s.length + 1 := by rw [hR]; simp [risingSS, risingSS_length]; omega
      have eg : rd_L3 R (p.length : Int) = rising b x.length := by
        unfold rd_L3
        rw [Int.toNat_natCast, hR, List.getD_eq_getElem?_getD, List.getElem?_append_right (Nat.le_refl _), Nat.sub_self]
        rfl
      simp only [List.length_cons] at hl
      refine Ev.step (fun _ => by rw [laws_heldIntSS.l0]) (Ev.ip (by omega) (Ev.ip (by omega) ?_))
      rw [eg]
      refine Ev.bind (laws_heldIntS.E b x.length (by omega) (by omega) hxl) (Ev.ng (by omega) ?_)
      have nx := ih (p ++ [rising b x.length]) R (b + x.length) (by rw [hR]; simp [risingSS]) (by
        unfold total at hb ⊢
        rw [List.map_append, List.sum_append, hb]
        simp only [List.map_cons, List.map_nil, List.sum_cons, List.sum_nil, rising_length]
        omega) (by rw [List.length_append, List.length_singleton]; omega) (fun y hy => by
          rcases List.mem_append.1 hy with hy | hy
          · exact hp y hy
          · rw [List.mem_singleton.1 hy, rising_length]; exact hxl) (fun y hy => hs y (List.mem_cons_of_mem _ hy))
      rw [List.length_append, List.length_singleton] at nx
      rw [wrap_succ p.length (by omega)]
      refine Ev.eq nx ?_
      unfold total
      simp only [List.map_cons, List.sum_cons]
      omega
  have := key l [] (risingSS a l) a rfl (by simp [total]) (by simp; omega) (by simp) hx
  simpa using this
theorem laws_heldIntSS.S_ (k : Nat) (A0 : Option Addr) (n c0 : Nat) (l0 : List (List Int)) (a1 : Int) (r : Int) (w : World) (base : Nat) (ok : Nat → Prop) (hr0 : Kd.S (Kd.slice 3 (Kd.int .i64)) 22 w base ok (.slice A0 n c0) l0) (h : laws_heldIntSS.f k l0 a1 = some r) :
    Calls Try.prog 54 #[.slice A0 n c0, .int .i64 a1] w fun e w' => e = .returned (.int .i64 r) ∧ Drawn0 w w' := by
  obtain ⟨rfl, h1, h2⟩ := Kd.R_reads' (Kd.S_R hr0)
  exact laws_heldIntSS.calls k A0 c0 l0 a1 r w h2 h1 h
end Go.Proofs.Ytcjjmfpkhhdmlaa.G

namespace Go.Proofs.Ytcjjmfpkhhdmlaa.G
open Go.RowKit Go.Proofs.YtcjjmfpkhhdmlaaW.PrintWords Go.Proofs.YtcjjmfpkhhdmlaaW.PrintLast Go.Proofs.YtcjjmfpkhhdmlaaW.PrintMore
attribute [local go_sem] max2_int min2_int max_two min_two max_three min_three max_four min_four   -- for this text's walks alone
/-! ### laws_FnExactPalette: function 9 -/
/- The law FnExactPalette: for all arguments the program's Palette answers as the reference's, writes into none of them and keeps nothing of them. No condition. -/
theorem same_Palette (l0 : List (List Int)) (a1 : Int) (h0 : l0.length ≤ 1048576) (_ : ∀ x ∈ l0, x.length ≤ 1048576) (_ : l0.length ≤ 9223372036854775807 ∧ ∀ x_ ∈ l0, x_.length ≤ 9223372036854775807 ∧ ∀ y_ ∈ x_, (Lit.int .i64 y_).wf = true) (_ : (Lit.int .i64 a1).wf = true) :
    ∃ r, Ev (fun _ => spec_Palette.f l0 a1) r ∧ Ev (fun _ => impl_Palette.f l0 a1) r ∧ r.length ≤ 1048576 ∧ ∀ x ∈ r, x.length ≤ 1048576 := by
  refine ⟨palM l0 a1, Ev.c (if_pos h0), Ev.c (if_pos h0), ?_, ?_⟩
  · unfold palM
    split
    · rename_i h
      simp only [palOk, Bool.and_eq_true, decide_eq_true_eq] at h
      have hgo : ∀ (f : Nat) (bs : List (List (List Int))), (bs.length : Int) ≤ a1 → ((palGo a1 f bs).length : Int) ≤ a1 := by
        intro f
        induction f with
        | zero => intro bs h; exact h
        | succ f ih =>
          intro bs h
          simp only [palGo]
          split
          · rename_i hlt
            split
            · exact h
            · rename_i bs' hb
              refine ih bs' ?_
              unfold partM at hb
              split at hb
              · cases hb
              · simp only [Option.some.injEq] at hb
                rw [← hb, List.length_append, List.length_set, List.length_singleton]
                omega
          · exact h
      rw [List.length_map]
      have := hgo a1.toNat [l0] (by simp; omega)
      omega
    · simp
  · intro x hx
    unfold palM at hx
    split at hx
    · obtain ⟨b, _, rfl⟩ := List.mem_map.1 hx
      show 3 ≤ 1048576
      omega
    · simp at hx
set_option maxHeartbeats 8000000 in
set_option maxRecDepth 100000 in
theorem laws_FnExactPalette.law (A0 : Option Addr) (c0 : Nat) (l0 : List (List Int)) (a1 : Int) (w : World) (hr0 : Kd.C (Kd.slice 3 (Kd.int .i64)) w A0 l0.length l0) (hc0 : l0.length ≤ c0) (hw0 : l0.length ≤ 9223372036854775807 ∧ ∀ x_ ∈ l0, x_.length ≤ 9223372036854775807 ∧ ∀ y_ ∈ x_, (Lit.int .i64 y_).wf = true) (hw1 : (Lit.int .i64 a1).wf = true) :
    Calls Try.prog 9 #[.slice A0 l0.length c0, .int .i64 a1] w fun e w' => e = .returned (.bool true) ∧ Below w.heap.size w w' := by
  have HR0 := Aside0.mk hr0; have HC0 := Aside0.mk hc0; clear hr0 hc0
  have HW0 := Aside0.mk hw0; clear hw0
  have HW1 := Aside0.mk hw1; clear hw1
  obtain ⟨z0, hz0, hzl0, hzp0⟩ := laws_szIntSS.ev l0 1048576 (by omega) (by omega) HW0.out.1 (fun x_ hx_ => (HW0.out.2 x_ hx_).1)
  obtain ⟨kz0, hkz0⟩ := hz0.rounds; have HZ0 := Aside0.mk hkz0; clear hz0 hkz0
  by_cases g0 : z0 < 0
  · have d1_ : decide (z0 < 0) = true := decide_eq_true g0
    clear g0 hzp0
    go_enter Try.func9, Try.ntmps9
    go_wp2_with fail
    refine (laws_szIntSS.calls kz0 _ _ l0 1048576 z0 _ (by repeat (first | exact HR0.out | (with_reducible refine Kd.C_drewN ?_ _))) HC0.out HZ0.out).mono ?_
    rintro e_ w_ ⟨rfl, ⟨nd_, rfl⟩⟩
    go_wp2
    go_ret
    exact ⟨rfl, by repeat (first | exact Below.refl _ _ | apply pw_below_drewN | apply below_drew)⟩
  have dz0 : decide (z0 < 0) = false := decide_eq_false g0
  obtain ⟨hl0, hx0⟩ := hzp0 (by omega)
  have HX0 := Aside0.mk hx0; clear hzp0 hx0 g0; have z00 : 0 ≤ z0 := (by have := of_decide_eq_false dz0; omega)
  have HT0 := Aside0.mk (laws_toIntSS.val l0 hl0 HX0.out)
  obtain ⟨r0, hsp_, him_, hrl0, hrx0⟩ := same_Palette l0 a1 hl0 HX0.out HW0.out HW1.out
  have HRX0 := Aside0.mk hrx0; clear hrx0
  obtain ⟨ks_, hks_⟩ := hsp_.rounds; obtain ⟨ki_, hki_⟩ := him_.rounds; have HF := Aside0.mk hks_; have HI := Aside0.mk hki_; clear hsp_ him_ hks_ hki_
  have HB := Aside0.mk (Below.refl w.heap.size w)
  go_enter Try.func9, Try.ntmps9
  go_wp2_with fail
  refine (laws_szIntSS.calls kz0 _ _ l0 1048576 z0 _ (by repeat (first | exact HR0.out | (with_reducible refine Kd.C_drewN ?_ _))) HC0.out HZ0.out).mono ?_
  rintro e_ w_ ⟨rfl, ⟨nd_, rfl⟩⟩
  have N_ := Aside0.mk (show Below w.heap.size w _ from (by repeat (first | exact HB.out | apply pw_below_drewN | apply below_drew))); clear N_
  go_wp2_with fail
  refine (laws_toIntSS.calls _ _ l0 l0 _ (by repeat (first | exact Kd.C_below HR0.out HB.out | (with_reducible refine Kd.C_drewN ?_ _) | (with_reducible refine Kd.C_drew ?_))) HC0.out HT0.out).mono ?_
  rintro e_ w_1 ⟨v_2, rfl, ho_, hb_⟩
  obtain ⟨A_5, c_6, e1_⟩ := Kd.S_slice ho_; subst e1_
  have HO_7 := Aside0.mk (Kd.S_mono (ok' := fun k_ => w.heap.size ≤ k_ ∧ k_ < w_1.heap.size) (Kd.S_lower (Kd.S_bound ho_) HB.out.size) (fun k_ hk_ => ⟨hk_.2.1, hk_.2.2.1⟩)); clear ho_
  have HS_ : w.heap.size ≤ w_1.heap.size := hb_.size
  have HZ_8 := Aside0.mk HS_; clear HS_
  have N_ := Aside0.mk (show Below w.heap.size w w_1 from Below.trans (by repeat (first | exact HB.out | apply pw_below_drewN | apply below_drew)) (Below.mono hb_ HB.out.size)); clear HB; have HB := N_; clear N_
  clear hb_
  go_wp2_with fail
  refine (spec_Palette.calls  _ _ l0 a1 r0 _ (by repeat (first | exact (Kd.S_reads' HO_7.out).2.2 | (with_reducible refine Kd.C_drewN ?_ _) | (with_reducible refine Kd.C_drew ?_))) (Kd.S_reads' HO_7.out).2.1 HF.out).mono ?_
  rintro e_ w_9 ⟨v_10, rfl, ho0_, hb_⟩
  obtain ⟨A_11, c_12, e1_⟩ := Kd.S_slice ho0_; subst e1_
  have HO_13 := Aside0.mk (Kd.S_mono (ok' := fun k_ => w_1.heap.size ≤ k_ ∧ k_ < w_9.heap.size) (Kd.S_lower (Kd.S_bound ho0_) HB.out.size) (fun k_ hk_ => ⟨hk_.2.1, hk_.2.2.1⟩)); clear ho0_
  have HS_ : w_1.heap.size ≤ w_9.heap.size := hb_.size
  have HZ_14 := Aside0.mk HS_; clear HS_
  have N_ := Aside0.mk (Kd.S_below (by repeat (first | exact HO_7.out | (with_reducible refine Kd.S_drewN ?_ _) | (with_reducible refine Kd.S_drew ?_))) hb_); clear HO_7; have HO_7 := N_; clear N_
  have N_ := Aside0.mk (show Below w.heap.size w w_9 from Below.trans (by repeat (first | exact HB.out | apply pw_below_drewN | apply below_drew)) (Below.mono hb_ HB.out.size)); clear HB; have HB := N_; clear N_
  clear hb_
  go_wp2_with fail
  refine (laws_toIntSS.calls _ _ l0 l0 _ (by repeat (first | exact Kd.C_below HR0.out HB.out | (with_reducible refine Kd.C_drewN ?_ _) | (with_reducible refine Kd.C_drew ?_))) HC0.out HT0.out).mono ?_
  rintro e_ w_15 ⟨v_16, rfl, ho_, hb_⟩
  obtain ⟨A_19, c_20, e1_⟩ := Kd.S_slice ho_; subst e1_
  have HO_21 := Aside0.mk (Kd.S_mono (ok' := fun k_ => w_9.heap.size ≤ k_ ∧ k_ < w_15.heap.size) (Kd.S_lower (Kd.S_bound ho_) HB.out.size) (fun k_ hk_ => ⟨hk_.2.1, hk_.2.2.1⟩)); clear ho_
  have HS_ : w_9.heap.size ≤ w_15.heap.size := hb_.size
  have HZ_22 := Aside0.mk HS_; clear HS_
  have N_ := Aside0.mk (Kd.S_below (by repeat (first | exact HO_13.out | (with_reducible refine Kd.S_drewN ?_ _) | (with_reducible refine Kd.S_drew ?_))) hb_); clear HO_13; have HO_13 := N_; clear N_
  have N_ := Aside0.mk (show Below w.heap.size w w_15 from Below.trans (by repeat (first | exact HB.out | apply pw_below_drewN | apply below_drew)) (Below.mono hb_ HB.out.size)); clear HB; have HB := N_; clear N_
  clear hb_
  go_wp2_with fail
  refine (impl_Palette.calls  _ _ l0 a1 r0 _ (by repeat (first | exact (Kd.S_reads' HO_21.out).2.2 | (with_reducible refine Kd.C_drewN ?_ _) | (with_reducible refine Kd.C_drew ?_))) (Kd.S_reads' HO_21.out).2.1 HI.out).mono ?_
  rintro e_ w_23 ⟨v_24, rfl, ho0_, hb_⟩
  obtain ⟨A_25, c_26, e1_⟩ := Kd.S_slice ho0_; subst e1_
  have HO_27 := Aside0.mk (Kd.S_mono (ok' := fun k_ => w_15.heap.size ≤ k_ ∧ k_ < w_23.heap.size) (Kd.S_lower (Kd.S_bound ho0_) HB.out.size) (fun k_ hk_ => ⟨hk_.2.1, hk_.2.2.1⟩)); clear ho0_
  have HS_ : w_15.heap.size ≤ w_23.heap.size := hb_.size
  have HZ_28 := Aside0.mk HS_; clear HS_
  have N_ := Aside0.mk (Kd.S_below (by repeat (first | exact HO_13.out | (with_reducible refine Kd.S_drewN ?_ _) | (with_reducible refine Kd.S_drew ?_))) hb_); clear HO_13; have HO_13 := N_; clear N_
  have N_ := Aside0.mk (Kd.S_below (by repeat (first | exact HO_21.out | (with_reducible refine Kd.S_drewN ?_ _) | (with_reducible refine Kd.S_drew ?_))) hb_); clear HO_21; have HO_21 := N_; clear N_
  have N_ := Aside0.mk (show Below w.heap.size w w_23 from Below.trans (by repeat (first | exact HB.out | apply pw_below_drewN | apply below_drew)) (Below.mono hb_ HB.out.size)); clear HB; have HB := N_; clear N_
  clear hb_
  obtain ⟨ke_29, he_30⟩ := (laws_eqIntSS.T r0 (by omega) HRX0.out).rounds
  replace he_30 := Aside0.mk he_30
  go_wp2_with fail
  refine (laws_eqIntSS.calls ke_29 _ _ r0 _ _ r0 true _ (by repeat (first | exact (Kd.S_reads' HO_27.out).2.2 | (with_reducible refine Kd.C_drewN ?_ _) | (with_reducible refine Kd.C_drew ?_))) (Kd.S_reads' HO_27.out).2.1 (by repeat (first | exact (Kd.S_reads' HO_13.out).2.2 | (with_reducible refine Kd.C_drewN ?_ _) | (with_reducible refine Kd.C_drew ?_))) (Kd.S_reads' HO_13.out).2.1 he_30.out).mono ?_
  rintro e_ w_ ⟨rfl, ⟨nd_, rfl⟩⟩
  go_wp2_with fail
  refine (laws_toIntSS.calls _ _ l0 l0 _ (by repeat (first | exact Kd.C_below HR0.out HB.out | (with_reducible refine Kd.C_drewN ?_ _) | (with_reducible refine Kd.C_drew ?_))) HC0.out HT0.out).mono ?_
  rintro e_ w_31 ⟨v_32, rfl, ho_, hb_⟩
  obtain ⟨A_35, c_36, e1_⟩ := Kd.S_slice ho_; subst e1_
  have HO_37 := Aside0.mk (Kd.S_mono (ok' := fun k_ => w_23.heap.size ≤ k_ ∧ k_ < w_31.heap.size) (Kd.S_lower (Kd.S_bound ho_) HB.out.size) (fun k_ hk_ => ⟨hk_.2.1, hk_.2.2.1⟩)); clear ho_
  have HS_ : w_23.heap.size ≤ w_31.heap.size := hb_.size
  have HZ_38 := Aside0.mk HS_; clear HS_
  have N_ := Aside0.mk (Kd.S_below (by repeat (first | exact HO_13.out | (with_reducible refine Kd.S_drewN ?_ _) | (with_reducible refine Kd.S_drew ?_))) hb_); clear HO_13; have HO_13 := N_; clear N_
  have N_ := Aside0.mk (Kd.S_below (by repeat (first | exact HO_21.out | (with_reducible refine Kd.S_drewN ?_ _) | (with_reducible refine Kd.S_drew ?_))) hb_); clear HO_21; have HO_21 := N_; clear N_
  have N_ := Aside0.mk (Kd.S_below (by repeat (first | exact HO_27.out | (with_reducible refine Kd.S_drewN ?_ _) | (with_reducible refine Kd.S_drew ?_))) hb_); clear HO_27; have HO_27 := N_; clear N_
  have N_ := Aside0.mk (show Below w.heap.size w w_31 from Below.trans (by repeat (first | exact HB.out | apply pw_below_drewN | apply below_drew)) (Below.mono hb_ HB.out.size)); clear HB; have HB := N_; clear N_
  clear hb_
  obtain ⟨ke_39, he_40⟩ := (laws_eqIntSS.T l0 (by omega) HX0.out).rounds
  replace he_40 := Aside0.mk he_40
  go_wp2_with fail
  refine (laws_eqIntSS.calls ke_39 _ _ l0 _ _ l0 true _ (by repeat (first | exact (Kd.S_reads' HO_21.out).2.2 | (with_reducible refine Kd.C_drewN ?_ _) | (with_reducible refine Kd.C_drew ?_))) (Kd.S_reads' HO_21.out).2.1 (by repeat (first | exact (Kd.S_reads' HO_37.out).2.2 | (with_reducible refine Kd.C_drewN ?_ _) | (with_reducible refine Kd.C_drew ?_))) (Kd.S_reads' HO_37.out).2.1 he_40.out).mono ?_
  rintro e_ w_ ⟨rfl, ⟨nd_, rfl⟩⟩
  go_wp2_with fail
  refine (laws_markIntSS.callsT _ _ l0 1 w _ (by repeat (first | exact HB.out | apply pw_below_drewN | apply below_drew)) (by repeat (first | exact HO_21.out | (with_reducible refine Kd.S_drewN ?_ _) | (with_reducible refine Kd.S_drew ?_))) (by omega) (by omega) (by omega) HX0.out).mono ?_
  rintro e_ w_41 ⟨⟨rfl, hn_⟩, hb_, hk_⟩
  have NX_ := Aside0.mk hn_; clear hn_
  have N_ := Aside0.mk (Kd.S_kept (by repeat (first | exact HO_13.out | (with_reducible refine Kd.S_drewN ?_ _) | (with_reducible refine Kd.S_drew ?_))) hk_ (fun k_ hk_ hn_ => by have z1_ := hk_.1; have z2_ := hk_.2; have z3_ := hn_.1; have z4_ := hn_.2; have := HZ_8.out; have := HZ_14.out; have := HZ_22.out; have := HZ_28.out; have := HZ_38.out; omega)); clear HO_13; have HO_13 := N_; clear N_
  have N_ := Aside0.mk (Kd.S_kept (by repeat (first | exact HO_27.out | (with_reducible refine Kd.S_drewN ?_ _) | (with_reducible refine Kd.S_drew ?_))) hk_ (fun k_ hk_ hn_ => by have z1_ := hk_.1; have z2_ := hk_.2; have z3_ := hn_.1; have z4_ := hn_.2; have := HZ_8.out; have := HZ_14.out; have := HZ_22.out; have := HZ_28.out; have := HZ_38.out; omega)); clear HO_27; have HO_27 := N_; clear N_
  clear HO_21; have HO_21 := NX_; clear NX_
  have hz_ : w_31.heap.size ≤ w_41.heap.size := hk_.1; have HZm41_ := Aside0.mk hz_; clear hz_
  clear HB; have HB := Aside0.mk hb_; clear hb_ hk_
  obtain ⟨kk_42, he_⟩ : ∃ q_ : Int, q_ = 1 + (((total l0 : Nat) : Nat) : Int) := ⟨_, rfl⟩; rw [← he_]
  have ht_ := total_le l0 HX0.out
  have kk_42a : 0 ≤ kk_42 := by omega
  have kk_42b : kk_42 ≤ 1099511627777 := by omega
  clear he_ ht_
  have dk_ : decide (kk_42 < 0) = false := decide_eq_false (by omega)
  obtain ⟨ke_43, he_44⟩ := (laws_eqIntSS.T r0 (by omega) HRX0.out).rounds
  replace he_44 := Aside0.mk he_44
  go_wp2_with fail
  refine (laws_eqIntSS.calls ke_43 _ _ r0 _ _ r0 true _ (by repeat (first | exact (Kd.S_reads' HO_27.out).2.2 | (with_reducible refine Kd.C_drewN ?_ _) | (with_reducible refine Kd.C_drew ?_))) (Kd.S_reads' HO_27.out).2.1 (by repeat (first | exact (Kd.S_reads' HO_13.out).2.2 | (with_reducible refine Kd.C_drewN ?_ _) | (with_reducible refine Kd.C_drew ?_))) (Kd.S_reads' HO_13.out).2.1 he_44.out).mono ?_
  rintro e_ w_ ⟨rfl, ⟨nd_, rfl⟩⟩
  go_wp2_with fail
  refine (laws_markIntSS.callsT _ _ r0 1 w _ (by repeat (first | exact HB.out | apply pw_below_drewN | apply below_drew)) (by repeat (first | exact HO_27.out | (with_reducible refine Kd.S_drewN ?_ _) | (with_reducible refine Kd.S_drew ?_))) (by omega) (by omega) (by omega) HRX0.out).mono ?_
  rintro e_ w_45 ⟨⟨rfl, hn_⟩, hb_, hk_⟩
  have NX_ := Aside0.mk hn_; clear hn_
  have N_ := Aside0.mk (Kd.S_kept (by repeat (first | exact HO_13.out | (with_reducible refine Kd.S_drewN ?_ _) | (with_reducible refine Kd.S_drew ?_))) hk_ (fun k_ hk_ hn_ => by have z1_ := hk_.1; have z2_ := hk_.2; have z3_ := hn_.1; have z4_ := hn_.2; have := HZ_8.out; have := HZ_14.out; have := HZ_22.out; have := HZ_28.out; have := HZ_38.out; have := HZm41_.out; omega)); clear HO_13; have HO_13 := N_; clear N_
  have N_ := Aside0.mk (Kd.S_kept (by repeat (first | exact HO_21.out | (with_reducible refine Kd.S_drewN ?_ _) | (with_reducible refine Kd.S_drew ?_))) hk_ (fun k_ hk_ hn_ => by have z1_ := hk_.1; have z2_ := hk_.2; have z3_ := hn_.1; have z4_ := hn_.2; have := HZ_8.out; have := HZ_14.out; have := HZ_22.out; have := HZ_28.out; have := HZ_38.out; have := HZm41_.out; omega)); clear HO_21; have HO_21 := N_; clear N_
  clear HO_27; have HO_27 := NX_; clear NX_
  have hz_ : w_41.heap.size ≤ w_45.heap.size := hk_.1; have HZm45_ := Aside0.mk hz_; clear hz_
  clear HB; have HB := Aside0.mk hb_; clear hb_ hk_
  have ht_ := total_le r0 HRX0.out
  obtain ⟨m_46, he_⟩ : ∃ q_ : Int, q_ = 1 + (((total r0 : Nat) : Nat) : Int) := ⟨_, rfl⟩; rw [← he_]; have hm_47 := Aside0.mk he_; have m_46a : 0 ≤ m_46 := (by omega); have m_46b : m_46 ≤ 4398046511104 := (by omega); clear he_ ht_
  have dm_46 : decide (m_46 < 0) = false := decide_eq_false (by omega)
  obtain ⟨kh_48, hh_49⟩ := (laws_heldIntSS.E 1 r0 (by omega) (by omega) (by omega) HRX0.out).rounds; rw [← hm_47.out] at hh_49; replace hh_49 := Aside0.mk hh_49
  go_wp2_with fail
  refine (laws_heldIntSS.S_ kh_48 _ _ _ _ _ _ _ _ _ (by repeat (first | exact HO_27.out | (with_reducible refine Kd.S_drewN ?_ _) | (with_reducible refine Kd.S_drew ?_))) hh_49.out).mono ?_
  rintro e_ w_ ⟨rfl, ⟨nd_, rfl⟩⟩
  go_wp2_with fail
  refine (laws_toIntSS.calls _ _ l0 l0 _ (by repeat (first | exact Kd.C_below HR0.out HB.out | (with_reducible refine Kd.C_drewN ?_ _) | (with_reducible refine Kd.C_drew ?_))) HC0.out HT0.out).mono ?_
  rintro e_ w_50 ⟨v_51, rfl, ho_, hb_⟩
  obtain ⟨A_54, c_55, e1_⟩ := Kd.S_slice ho_; subst e1_
  have HO_56 := Aside0.mk (Kd.S_mono (ok' := fun k_ => w_45.heap.size ≤ k_ ∧ k_ < w_50.heap.size) (Kd.S_lower (Kd.S_bound ho_) HB.out.size) (fun k_ hk_ => ⟨hk_.2.1, hk_.2.2.1⟩)); clear ho_
  have HS_ : w_45.heap.size ≤ w_50.heap.size := hb_.size
  have HZ_57 := Aside0.mk HS_; clear HS_
  have N_ := Aside0.mk (Kd.S_below (by repeat (first | exact HO_13.out | (with_reducible refine Kd.S_drewN ?_ _) | (with_reducible refine Kd.S_drew ?_))) hb_); clear HO_13; have HO_13 := N_; clear N_
  have N_ := Aside0.mk (Kd.S_below (by repeat (first | exact HO_27.out | (with_reducible refine Kd.S_drewN ?_ _) | (with_reducible refine Kd.S_drew ?_))) hb_); clear HO_27; have HO_27 := N_; clear N_
  have N_ := Aside0.mk (show Below w.heap.size w w_50 from Below.trans (by repeat (first | exact HB.out | apply pw_below_drewN | apply below_drew)) (Below.mono hb_ HB.out.size)); clear HB; have HB := N_; clear N_
  clear hb_
  go_wp2_with fail
  refine (impl_Palette.calls  _ _ l0 a1 r0 _ (by repeat (first | exact (Kd.S_reads' HO_56.out).2.2 | (with_reducible refine Kd.C_drewN ?_ _) | (with_reducible refine Kd.C_drew ?_))) (Kd.S_reads' HO_56.out).2.1 HI.out).mono ?_
  rintro e_ w_58 ⟨v_59, rfl, ho0_, hb_⟩
  obtain ⟨A_60, c_61, e1_⟩ := Kd.S_slice ho0_; subst e1_
  have HO_62 := Aside0.mk (Kd.S_mono (ok' := fun k_ => w_50.heap.size ≤ k_ ∧ k_ < w_58.heap.size) (Kd.S_lower (Kd.S_bound ho0_) HB.out.size) (fun k_ hk_ => ⟨hk_.2.1, hk_.2.2.1⟩)); clear ho0_
  have HS_ : w_50.heap.size ≤ w_58.heap.size := hb_.size
  have HZ_63 := Aside0.mk HS_; clear HS_
  have N_ := Aside0.mk (Kd.S_below (by repeat (first | exact HO_13.out | (with_reducible refine Kd.S_drewN ?_ _) | (with_reducible refine Kd.S_drew ?_))) hb_); clear HO_13; have HO_13 := N_; clear N_
  have N_ := Aside0.mk (Kd.S_below (by repeat (first | exact HO_27.out | (with_reducible refine Kd.S_drewN ?_ _) | (with_reducible refine Kd.S_drew ?_))) hb_); clear HO_27; have HO_27 := N_; clear N_
  have N_ := Aside0.mk (Kd.S_below (by repeat (first | exact HO_56.out | (with_reducible refine Kd.S_drewN ?_ _) | (with_reducible refine Kd.S_drew ?_))) hb_); clear HO_56; have HO_56 := N_; clear N_
  have N_ := Aside0.mk (show Below w.heap.size w w_58 from Below.trans (by repeat (first | exact HB.out | apply pw_below_drewN | apply below_drew)) (Below.mono hb_ HB.out.size)); clear HB; have HB := N_; clear N_
  clear hb_
  obtain ⟨ke_64, he_65⟩ := (laws_eqIntSS.T r0 (by omega) HRX0.out).rounds
  replace he_65 := Aside0.mk he_65
  go_wp2_with fail
  refine (laws_eqIntSS.calls ke_64 _ _ r0 _ _ r0 true _ (by repeat (first | exact (Kd.S_reads' HO_62.out).2.2 | (with_reducible refine Kd.C_drewN ?_ _) | (with_reducible refine Kd.C_drew ?_))) (Kd.S_reads' HO_62.out).2.1 (by repeat (first | exact (Kd.S_reads' HO_13.out).2.2 | (with_reducible refine Kd.C_drewN ?_ _) | (with_reducible refine Kd.C_drew ?_))) (Kd.S_reads' HO_13.out).2.1 he_65.out).mono ?_
  rintro e_ w_ ⟨rfl, ⟨nd_, rfl⟩⟩
  obtain ⟨kh_66, hh_67⟩ := (laws_heldIntSS.E 1 r0 (by omega) (by omega) (by omega) HRX0.out).rounds; rw [← hm_47.out] at hh_67; replace hh_67 := Aside0.mk hh_67
  go_wp2_with fail
  refine (laws_heldIntSS.S_ kh_66 _ _ _ _ _ _ _ _ _ (by repeat (first | exact HO_27.out | (with_reducible refine Kd.S_drewN ?_ _) | (with_reducible refine Kd.S_drew ?_))) hh_67.out).mono ?_
  rintro e_ w_ ⟨rfl, ⟨nd_, rfl⟩⟩
  go_wp2
  go_ret
  exact ⟨rfl, by repeat (first | exact HB.out | apply pw_below_drewN | apply below_drew)⟩
end Go.Proofs.Ytcjjmfpkhhdmlaa.G

namespace Go.Proofs.Ytcjjmfpkhhdmlaa.G
open Go.RowKit Go.Proofs.YtcjjmfpkhhdmlaaW.PrintWords Go.Proofs.YtcjjmfpkhhdmlaaW.PrintLast Go.Proofs.YtcjjmfpkhhdmlaaW.PrintMore
attribute [local go_sem] max2_int min2_int max_two min_two max_three min_three max_four min_four   -- for this text's walks alone
--import Derived.Deep.Slices
--import Derived.ChangeArms
/-! arguments of any of our kinds, opened: what reads as data reads as a value of the kind -/
/-- type t reads as kind d, with values that are wf -/
def Opens {α : Type} (P : Program) (t : TypeId) (d : Kd α) (wf : α → Prop) : Prop :=
  P.cellsOf t = d.sz ∧ ∀ {H : Type} {enc : TypeId × Value → H} {w : World} {base fuel : Nat} {cs : List Value} {x : DataW H × List MemPlace}, DataW.trod enc P w base (fun _ => true) true fuel t cs = some x → ∃ a, d.K w a cs ∧ wf a
theorem opens_int {P : Program} {t : TypeId} {k : IntKind} (hc : P.cellsOf t = 1) (ht : P.underlying t = some (.int k)) : Opens P t (Kd.int k) (fun n => (Lit.int k n).wf = true) :=
  ⟨hc, fun h => by
    obtain ⟨n, rfl, _, hw⟩ := DataW.trod_int ht h
    exact ⟨n, rfl, hw⟩⟩
theorem opens_bool {P : Program} {t : TypeId} (hc : P.cellsOf t = 1) (ht : P.underlying t = some .bool) : Opens P t Kd.bool (fun _ => True) :=
  ⟨hc, fun h => by
    obtain ⟨b, rfl, _⟩ := DataW.trod_bool ht h
    exact ⟨b, rfl, trivial⟩⟩
theorem opens_slice {α : Type} {P : Program} {t e : TypeId} {d : Kd α} {wf : α → Prop} (hc : P.cellsOf t = 1) (ht : P.underlying t = some (.slice e)) (h0 : Opens P e d wf) : Opens P t (Kd.slice e d) (fun l => l.length ≤ 9223372036854775807 ∧ ∀ x ∈ l, wf x) :=
  ⟨hc, fun {H enc w base fuel cs x} h => by
    rcases Go.Deep.open_slice ht h with ⟨rfl, _⟩ | ⟨a, len, cap, m, n, D, Pl, rfl, hb, hl, hm, hmm, rfl, hx⟩
    · exact ⟨[], ⟨none, 0, rfl, Nat.le_refl _, rfl, by simp, fun h => absurd h (by simp)⟩, by simp, by simp⟩
    · simp only [if_true] at hmm
      subst hmm
      have build : ∀ n, n ≤ len → ∃ l : List α, l.length = n ∧ (∀ j p, l[j]? = some p → ∃ c, c.length = d.sz ∧ d.K w p c ∧ ∀ i u, c[i]? = some u → w.cell? (a.add (j * d.sz + i)) = some u) ∧ ∀ x ∈ l, wf x := by
        intro n
        induction n with
        | zero => exact fun _ => ⟨[], rfl, by simp, by simp⟩
        | succ n ih =>
          intro hn
          obtain ⟨l, hl1, hl2, hl3⟩ := ih (by omega)
          obtain ⟨cs', h1, h2⟩ := hx n (by omega)
          obtain ⟨b, hk, hw⟩ := h0.2 h2
          obtain ⟨_, hcl, hcell⟩ := World.cells?_some h1
          rw [h0.1] at hcl hcell
          refine ⟨l ++ [b], by simp [hl1], fun j p hj => ?_, fun x hx => ?_⟩
          · rcases Nat.lt_or_ge j l.length with hlt | hge
            · rw [List.getElem?_append_left hlt] at hj
              exact hl2 j p hj
            · obtain rfl : j = l.length := by
                have := (List.getElem?_eq_some_iff.1 hj).1
                simp at this; omega
              obtain rfl : b = p := by simpa using hj
              refine ⟨cs', hcl, hk, fun i u hu => ?_⟩
              have hi : i < d.sz := by rw [← hcl]; exact (List.getElem?_eq_some_iff.1 hu).1
              have := hcell i hi
              rw [Go.Deep.add_add] at this
              rw [hl1, this, hu]
          · rcases List.mem_append.1 hx with hx | hx
            · exact hl3 x hx
            · rw [List.mem_singleton.1 hx]; exact hw
      obtain ⟨l, hl1, hl2, hl3⟩ := build len (Nat.le_refl _)
      subst hl1
      have hm' : m ≤ 9223372036854775807 := hm
      exact ⟨l, ⟨some a, m, rfl, hl, rfl, by omega, fun _ => ⟨a, rfl, hl2⟩⟩, by omega, hl3⟩⟩
/-- a slice argument, opened -/
theorem open_slice_arg {α H : Type} {enc : TypeId × Value → H} {P : Program} {W : World} {base : Nat} {t e : TypeId} {d : Kd α} {wf : List α → Prop} (ho : Opens P t (Kd.slice e d) wf) {a : Option Addr} {len cap : Nat} {dd : DataW H} {ps : List MemPlace}
    (h : DataW.Trod enc P W base (fun _ => true) true t (.slice a len cap) dd ps) : ∃ l : List α, len = l.length ∧ l.length ≤ cap ∧ d.C W a l.length l ∧ wf l := by
  obtain ⟨fuel, hf⟩ := h
  obtain ⟨l, ⟨A, c, e1, hl, hC⟩, hw⟩ := ho.2 hf
  injection e1 with e1 _
  injection e1 with e1 e2 e3
  subst e1; subst e2; subst e3
  exact ⟨l, rfl, hl, hC, hw⟩
end Go.Proofs.Ytcjjmfpkhhdmlaa.G

namespace Go.Proofs.Ytcjjmfpkhhdmlaa.fnExactPalette
open Go.ChangeShapes Go.WideShapes Go.ChangeAt Go.RowKit Go.Proofs.Ytcjjmfpkhhdmlaa.G Go.Proofs.YtcjjmfpkhhdmlaaW.PrintWords
open Go.ChangeMaps (open_string shut_string)
theorem own : ownKnob Try.prog.godebug = none := by kernel_rfl
theorem laidOut : laidOutB Try.prog = true := by kernel_rfl
set_option maxRecDepth 100000 in
theorem lifted (os : Os) (started : os.Started) (H : Type) (enc : TypeId × Value → H) :
    ReturnsInHanded {} Try.checked os 9 .any (Rows.fnExactPaletteSpec.pre6 enc Try.prog Try.f9 Rows.fnExactPaletteRow.domain false) (Rows.fnExactPaletteSpec.post enc Try.prog Try.f9 false true false false) := by
  refine returnsInHanded_of_change_sized (C := Try.checked) own started (by kernel_rfl) Try.func9
    (ChangeSpec.witness6 (enc := enc) (C := Try.checked) false ⟨#[], #[.slice none 0 0, .int .i64 0], []⟩ 8 (by kernel_rfl) (by kernel_rfl) (by kernel_rfl) (by kernel_rfl)) ?_
  intro W base args ds gs before hval0 hW hcnd hsz0 _
  have hval : ∀ (j : Nat) t v, Try.f9.params[j]? = some t → args[j]? = some v → Value.okWide Try.prog W .any base t v := hval0
  have hW' := hW
  obtain ⟨p, q, hA0, hV, rfl, hfz, hnd⟩ := hW
  have hA : DataW.TrodAll enc Try.prog W 0 (fun _ => true) true Try.f9.params.toList args.toList ds p := hA0
  rw [Try.params9] at hA hval
  obtain ⟨v0, vs0, d0, ds0, p0, q0, hargs, rfl, rfl, h0, r0⟩ := trodAll_cons hA
  obtain ⟨v1, vs1, d1, ds1, p1, q1, rfl, rfl, rfl, h1, r1⟩ := trodAll_cons r0
  obtain ⟨rfl, rfl, rfl⟩ := trodAll_nil r1
  obtain rfl : args = #[v0, v1] := by cases args; simp_all
  obtain ⟨rfl, rfl⟩ := trodVars_none hV
  obtain ⟨a0, len0, cap0, rfl⟩ := okWide_slice Try.underlying36 (hval 0 36 v0 rfl rfl)
  have k0 := h0
  have lt0 : ∀ x ∈ p0, x.block < W.heap.size := by obtain ⟨m, hm⟩ := k0; exact DataW.trod_lt m _ _ _ hm
  obtain ⟨l0, rfl, hl0, hC0, w0⟩ := open_slice_arg (opens_slice (by kernel_rfl) Try.underlying36 (opens_slice (by kernel_rfl) Try.underlying22 (opens_int (by kernel_rfl) Try.underlying3))) h0
  obtain ⟨a1, rfl, rfl, rfl, w1⟩ := open_int Try.underlying3 (hval 1 3 v1 rfl rfl) h1
  clear hA0 hval0 hsz0
  refine (laws_FnExactPalette.law _ _ l0 a1 W hC0 hl0 w0 w1).mono fun e W' ⟨he, bel0⟩ => ?_
  have bel : Below W.heap.size W W' := bel0
  subst he
  exact ⟨_, rfl, _, _, _, [], _, [], hW', trodAll_mk1 (shut_bool Try.underlying4 _), (trodAll_cons_mk (Below.trod laidOut (by kernel_rfl) (of_decide_eq_true (by kernel_rfl)) k0 bel lt0) (trodAll_cons_mk (shut_int Try.underlying3 w1) trodAll_mk0)), rfl, bel.frame _, fun h => by cases h⟩
theorem over : Rows.fnExactPaletteRow.holds Try.pinned (OpenSpec.ofChange Rows.fnExactPaletteSpec) :=
  OpenClaim.holds_of_wide 9 Try.f9 rfl rfl rfl rfl rfl rfl rfl ⟨rfl, rfl, rfl, rfl, rfl⟩ rfl rfl rfl rfl rfl (by kernel_rfl) Try.func9 (by kernel_rfl)
    (of_decide_eq_true (by kernel_rfl)) (by unfold Func.isWrapper; first | (rw [if_pos (by decide +kernel)]; kernel_rfl) | (rw [if_neg (by decide +kernel)]; exact ⟨rfl, rfl⟩))
    (fun os started H enc _ => lifted os started H enc)
theorem proved : Rows.FnExactPaletteSaid := over
#print axioms proved
end Go.Proofs.Ytcjjmfpkhhdmlaa.fnExactPalette
namespace Go.Proofs.Ytcjjmfpkhhdmlaa
/-- The row, under a short name, for the claim. -/
theorem fnExactPalette_holds : Rows.FnExactPaletteSaid := fnExactPalette.proved
end Go.Proofs.Ytcjjmfpkhhdmlaa
