/- The law FnExactSameStream: for every two streams the program's SameStream answers as the reference's and leaves its arguments as they were. No condition. -/
import Derived.Deep.Slices
import Derived.ChangeArms
import Derived.Test.YtilimpjcdeeaiaaGreatRows
import Derived.WalkKit
import Derived.ProofKit
import Derived.OpenShut
import Derived.ShutString
import Derived.ChangeOld
import Derived.Below
import Derived.SizedLaws
import Derived.ChangeSame
import Derived.Test.YtilimpjcdeeaiaaGreatMFnExactSameStream4
set_option linter.unusedVariables false
set_option linter.unusedSimpArgs false
namespace Go.Proofs.YtilimpjcdeeaiaaGreat.G
open Go.RowKit Go.Proofs.YtilimpjcdeeaiaaGreatW.PrintWords Go.Proofs.YtilimpjcdeeaiaaGreatW.PrintLast Go.Proofs.YtilimpjcdeeaiaaGreatW.PrintMore
attribute [local go_sem] max2_int min2_int max_two min_two max_three min_three max_four min_four   -- for this text's walks alone
def laws_FnExactSameStream.f (k : Nat) (a0_0 : Int) (a0_1 : Int) (a0_2 : Int) (a0_3 : Int) (l0_4 : List (S95)) (l0_5 : List (List Int)) (l0_6 : List (List (List Int))) (a0_7 : Int) (l0_8 : List (S70)) (l0_9 : List Int) (a1_0 : Int) (a1_1 : Int) (a1_2 : Int) (a1_3 : Int) (l1_4 : List (S95)) (l1_5 : List (List Int)) (l1_6 : List (List (List Int))) (a1_7 : Int) (l1_8 : List (S70)) (l1_9 : List Int) : Option (Bool) := (laws_szStream.f k a0_0 a0_1 a0_2 a0_3 l0_4 l0_5 l0_6 a0_7 l0_8 l0_9 1048576).bind fun t433 => (if t433 < 0 then (some true) else ((laws_szStream.f k a1_0 a1_1 a1_2 a1_3 l1_4 l1_5 l1_6 a1_7 l1_8 l1_9 t433).bind fun t434 => (if t434 < 0 then (some true) else ((laws_toStream.f k a0_0 a0_1 a0_2 a0_3 l0_4 l0_5 l0_6 a0_7 l0_8 l0_9).bind fun bt435 => ((laws_toStream.f k a1_0 a1_1 a1_2 a1_3 l1_4 l1_5 l1_6 a1_7 l1_8 l1_9).bind fun bt455 => ((spec_SameStream.f k bt435.1 bt435.2.1 bt435.2.2.1 bt435.2.2.2.1 bt435.2.2.2.2.1 bt435.2.2.2.2.2.1 bt435.2.2.2.2.2.2.1 bt435.2.2.2.2.2.2.2.1 bt435.2.2.2.2.2.2.2.2.1 bt435.2.2.2.2.2.2.2.2.2 bt455.1 bt455.2.1 bt455.2.2.1 bt455.2.2.2.1 bt455.2.2.2.2.1 bt455.2.2.2.2.2.1 bt455.2.2.2.2.2.2.1 bt455.2.2.2.2.2.2.2.1 bt455.2.2.2.2.2.2.2.2.1 bt455.2.2.2.2.2.2.2.2.2).bind fun t475 => ((laws_toStream.f k a0_0 a0_1 a0_2 a0_3 l0_4 l0_5 l0_6 a0_7 l0_8 l0_9).bind fun bt476 => ((laws_toStream.f k a1_0 a1_1 a1_2 a1_3 l1_4 l1_5 l1_6 a1_7 l1_8 l1_9).bind fun bt497 => ((impl_SameStream.f bt476.1 bt476.2.1 bt476.2.2.1 bt476.2.2.2.1 bt476.2.2.2.2.1 bt476.2.2.2.2.2.1 bt476.2.2.2.2.2.2.1 bt476.2.2.2.2.2.2.2.1 bt476.2.2.2.2.2.2.2.2.1 bt476.2.2.2.2.2.2.2.2.2 bt497.1 bt497.2.1 bt497.2.2.1 bt497.2.2.2.1 bt497.2.2.2.2.1 bt497.2.2.2.2.2.1 bt497.2.2.2.2.2.2.1 bt497.2.2.2.2.2.2.2.1 bt497.2.2.2.2.2.2.2.2.1 bt497.2.2.2.2.2.2.2.2.2).bind fun t518 => (if (t518 != t475) = true then (some false) else ((laws_toStream.f k a0_0 a0_1 a0_2 a0_3 l0_4 l0_5 l0_6 a0_7 l0_8 l0_9).bind fun bt519 => ((laws_eqStream.f k bt476.1 bt476.2.1 bt476.2.2.1 bt476.2.2.2.1 bt476.2.2.2.2.1 bt476.2.2.2.2.2.1 bt476.2.2.2.2.2.2.1 bt476.2.2.2.2.2.2.2.1 bt476.2.2.2.2.2.2.2.2.1 bt476.2.2.2.2.2.2.2.2.2 bt519.1 bt519.2.1 bt519.2.2.1 bt519.2.2.2.1 bt519.2.2.2.2.1 bt519.2.2.2.2.2.1 bt519.2.2.2.2.2.2.1 bt519.2.2.2.2.2.2.2.1 bt519.2.2.2.2.2.2.2.2.1 bt519.2.2.2.2.2.2.2.2.2).bind fun t539 => (if t539 = true then ((laws_toStream.f k a1_0 a1_1 a1_2 a1_3 l1_4 l1_5 l1_6 a1_7 l1_8 l1_9).bind fun bt540 => ((laws_eqStream.f k bt497.1 bt497.2.1 bt497.2.2.1 bt497.2.2.2.1 bt497.2.2.2.2.1 bt497.2.2.2.2.2.1 bt497.2.2.2.2.2.2.1 bt497.2.2.2.2.2.2.2.1 bt497.2.2.2.2.2.2.2.2.1 bt497.2.2.2.2.2.2.2.2.2 bt540.1 bt540.2.1 bt540.2.2.1 bt540.2.2.2.1 bt540.2.2.2.2.1 bt540.2.2.2.2.2.1 bt540.2.2.2.2.2.2.1 bt540.2.2.2.2.2.2.2.1 bt540.2.2.2.2.2.2.2.2.1 bt540.2.2.2.2.2.2.2.2.2).bind fun t560 => (if t560 = true then (some true) else (some false)))) else (some false))))))))))))))
set_option maxHeartbeats 8000000 in
set_option maxRecDepth 100000 in
theorem laws_FnExactSameStream.calls (k : Nat) (a0_0 : Int) (a0_1 : Int) (a0_2 : Int) (a0_3 : Int) (A0_4 : Option Addr) (c0_4 : Nat) (l0_4 : List (S95)) (A0_5 : Option Addr) (c0_5 : Nat) (l0_5 : List (List Int)) (A0_6 : Option Addr) (c0_6 : Nat) (l0_6 : List (List (List Int))) (a0_7 : Int) (A0_8 : Option Addr) (c0_8 : Nat) (l0_8 : List (S70)) (A0_9 : Option Addr) (c0_9 : Nat) (l0_9 : List Int) (a1_0 : Int) (a1_1 : Int) (a1_2 : Int) (a1_3 : Int) (A1_4 : Option Addr) (c1_4 : Nat) (l1_4 : List (S95)) (A1_5 : Option Addr) (c1_5 : Nat) (l1_5 : List (List Int)) (A1_6 : Option Addr) (c1_6 : Nat) (l1_6 : List (List (List Int))) (a1_7 : Int) (A1_8 : Option Addr) (c1_8 : Nat) (l1_8 : List (S70)) (A1_9 : Option Addr) (c1_9 : Nat) (l1_9 : List Int) (w : World) (hr0_4 : Kd.C k95 w A0_4 l0_4.length l0_4) (hc0_4 : l0_4.length ≤ c0_4) (hr0_5 : Kd.C (Kd.slice 3 (Kd.int .i64)) w A0_5 l0_5.length l0_5) (hc0_5 : l0_5.length ≤ c0_5) (hr0_6 : Kd.C (Kd.slice 66 (Kd.slice 3 (Kd.int .i64))) w A0_6 l0_6.length l0_6) (hc0_6 : l0_6.length ≤ c0_6) (hr0_8 : Kd.C k70 w A0_8 l0_8.length l0_8) (hc0_8 : l0_8.length ≤ c0_8) (hr0_9 : Kd.C (Kd.int .u8) w A0_9 l0_9.length l0_9) (hc0_9 : l0_9.length ≤ c0_9) (hr1_4 : Kd.C k95 w A1_4 l1_4.length l1_4) (hc1_4 : l1_4.length ≤ c1_4) (hr1_5 : Kd.C (Kd.slice 3 (Kd.int .i64)) w A1_5 l1_5.length l1_5) (hc1_5 : l1_5.length ≤ c1_5) (hr1_6 : Kd.C (Kd.slice 66 (Kd.slice 3 (Kd.int .i64))) w A1_6 l1_6.length l1_6) (hc1_6 : l1_6.length ≤ c1_6) (hr1_8 : Kd.C k70 w A1_8 l1_8.length l1_8) (hc1_8 : l1_8.length ≤ c1_8) (hr1_9 : Kd.C (Kd.int .u8) w A1_9 l1_9.length l1_9) (hc1_9 : l1_9.length ≤ c1_9) (h : laws_FnExactSameStream.f k a0_0 a0_1 a0_2 a0_3 l0_4 l0_5 l0_6 a0_7 l0_8 l0_9 a1_0 a1_1 a1_2 a1_3 l1_4 l1_5 l1_6 a1_7 l1_8 l1_9 = some true) :
  Calls Tryz.prog 3 #[.agg #[.int .i64 a0_0, .int .i64 a0_1, .int .i64 a0_2, .int .i64 a0_3, .slice A0_4 l0_4.length c0_4, .slice A0_5 l0_5.length c0_5, .slice A0_6 l0_6.length c0_6, .int .i64 a0_7, .slice A0_8 l0_8.length c0_8, .slice A0_9 l0_9.length c0_9], .agg #[.int .i64 a1_0, .int .i64 a1_1, .int .i64 a1_2, .int .i64 a1_3, .slice A1_4 l1_4.length c1_4, .slice A1_5 l1_5.length c1_5, .slice A1_6 l1_6.length c1_6, .int .i64 a1_7, .slice A1_8 l1_8.length c1_8, .slice A1_9 l1_9.length c1_9]] w fun e w' => e = .returned (.bool true) ∧ Below w.heap.size w w' := by
 have hu32 := Tryz.underlying32
 have hu41 := Tryz.underlying41
 have HR0_4 := zA hr0_4
 have HC0_4 := zA hc0_4
 clear hr0_4 hc0_4
 have HR0_5 := zA hr0_5
 have HC0_5 := zA hc0_5
 clear hr0_5 hc0_5
 have HR0_6 := zA hr0_6
 have HC0_6 := zA hc0_6
 clear hr0_6 hc0_6
 have HR0_8 := zA hr0_8
 have HC0_8 := zA hc0_8
 clear hr0_8 hc0_8
 have HR0_9 := zA hr0_9
 have HC0_9 := zA hc0_9
 clear hr0_9 hc0_9
 have HR1_4 := zA hr1_4
 have HC1_4 := zA hc1_4
 clear hr1_4 hc1_4
 have HR1_5 := zA hr1_5
 have HC1_5 := zA hc1_5
 clear hr1_5 hc1_5
 have HR1_6 := zA hr1_6
 have HC1_6 := zA hc1_6
 clear hr1_6 hc1_6
 have HR1_8 := zA hr1_8
 have HC1_8 := zA hc1_8
 clear hr1_8 hc1_8
 have HR1_9 := zA hr1_9
 have HC1_9 := zA hc1_9
 clear hr1_9 hc1_9
 have HB := zA (Below.refl w.heap.size w)
 have H : ((laws_szStream.f k a0_0 a0_1 a0_2 a0_3 l0_4 l0_5 l0_6 a0_7 l0_8 l0_9 1048576).bind fun t433 => (if t433 < 0 then (some true) else ((laws_szStream.f k a1_0 a1_1 a1_2 a1_3 l1_4 l1_5 l1_6 a1_7 l1_8 l1_9 t433).bind fun t434 => (if t434 < 0 then (some true) else ((laws_toStream.f k a0_0 a0_1 a0_2 a0_3 l0_4 l0_5 l0_6 a0_7 l0_8 l0_9).bind fun bt435 => ((laws_toStream.f k a1_0 a1_1 a1_2 a1_3 l1_4 l1_5 l1_6 a1_7 l1_8 l1_9).bind fun bt455 => ((spec_SameStream.f k bt435.1 bt435.2.1 bt435.2.2.1 bt435.2.2.2.1 bt435.2.2.2.2.1 bt435.2.2.2.2.2.1 bt435.2.2.2.2.2.2.1 bt435.2.2.2.2.2.2.2.1 bt435.2.2.2.2.2.2.2.2.1 bt435.2.2.2.2.2.2.2.2.2 bt455.1 bt455.2.1 bt455.2.2.1 bt455.2.2.2.1 bt455.2.2.2.2.1 bt455.2.2.2.2.2.1 bt455.2.2.2.2.2.2.1 bt455.2.2.2.2.2.2.2.1 bt455.2.2.2.2.2.2.2.2.1 bt455.2.2.2.2.2.2.2.2.2).bind fun t475 => ((laws_toStream.f k a0_0 a0_1 a0_2 a0_3 l0_4 l0_5 l0_6 a0_7 l0_8 l0_9).bind fun bt476 => ((laws_toStream.f k a1_0 a1_1 a1_2 a1_3 l1_4 l1_5 l1_6 a1_7 l1_8 l1_9).bind fun bt497 => ((impl_SameStream.f bt476.1 bt476.2.1 bt476.2.2.1 bt476.2.2.2.1 bt476.2.2.2.2.1 bt476.2.2.2.2.2.1 bt476.2.2.2.2.2.2.1 bt476.2.2.2.2.2.2.2.1 bt476.2.2.2.2.2.2.2.2.1 bt476.2.2.2.2.2.2.2.2.2 bt497.1 bt497.2.1 bt497.2.2.1 bt497.2.2.2.1 bt497.2.2.2.2.1 bt497.2.2.2.2.2.1 bt497.2.2.2.2.2.2.1 bt497.2.2.2.2.2.2.2.1 bt497.2.2.2.2.2.2.2.2.1 bt497.2.2.2.2.2.2.2.2.2).bind fun t518 => (if (t518 != t475) = true then (some false) else ((laws_toStream.f k a0_0 a0_1 a0_2 a0_3 l0_4 l0_5 l0_6 a0_7 l0_8 l0_9).bind fun bt519 => ((laws_eqStream.f k bt476.1 bt476.2.1 bt476.2.2.1 bt476.2.2.2.1 bt476.2.2.2.2.1 bt476.2.2.2.2.2.1 bt476.2.2.2.2.2.2.1 bt476.2.2.2.2.2.2.2.1 bt476.2.2.2.2.2.2.2.2.1 bt476.2.2.2.2.2.2.2.2.2 bt519.1 bt519.2.1 bt519.2.2.1 bt519.2.2.2.1 bt519.2.2.2.2.1 bt519.2.2.2.2.2.1 bt519.2.2.2.2.2.2.1 bt519.2.2.2.2.2.2.2.1 bt519.2.2.2.2.2.2.2.2.1 bt519.2.2.2.2.2.2.2.2.2).bind fun t539 => (if t539 = true then ((laws_toStream.f k a1_0 a1_1 a1_2 a1_3 l1_4 l1_5 l1_6 a1_7 l1_8 l1_9).bind fun bt540 => ((laws_eqStream.f k bt497.1 bt497.2.1 bt497.2.2.1 bt497.2.2.2.1 bt497.2.2.2.2.1 bt497.2.2.2.2.2.1 bt497.2.2.2.2.2.2.1 bt497.2.2.2.2.2.2.2.1 bt497.2.2.2.2.2.2.2.2.1 bt497.2.2.2.2.2.2.2.2.2 bt540.1 bt540.2.1 bt540.2.2.1 bt540.2.2.2.1 bt540.2.2.2.2.1 bt540.2.2.2.2.2.1 bt540.2.2.2.2.2.2.1 bt540.2.2.2.2.2.2.2.1 bt540.2.2.2.2.2.2.2.2.1 bt540.2.2.2.2.2.2.2.2.2).bind fun t560 => (if t560 = true then (some true) else (some false)))) else (some false))))))))))))))) = some true := h
 clear h
 replace H := Option.bind_eq_some_iff.mp H
 obtain ⟨t433, A30, H⟩ := H
 replace H : (if t433 < 0 then (some true) else ((laws_szStream.f k a1_0 a1_1 a1_2 a1_3 l1_4 l1_5 l1_6 a1_7 l1_8 l1_9 t433).bind fun t434 => (if t434 < 0 then (some true) else ((laws_toStream.f k a0_0 a0_1 a0_2 a0_3 l0_4 l0_5 l0_6 a0_7 l0_8 l0_9).bind fun bt435 => ((laws_toStream.f k a1_0 a1_1 a1_2 a1_3 l1_4 l1_5 l1_6 a1_7 l1_8 l1_9).bind fun bt455 => ((spec_SameStream.f k bt435.1 bt435.2.1 bt435.2.2.1 bt435.2.2.2.1 bt435.2.2.2.2.1 bt435.2.2.2.2.2.1 bt435.2.2.2.2.2.2.1 bt435.2.2.2.2.2.2.2.1 bt435.2.2.2.2.2.2.2.2.1 bt435.2.2.2.2.2.2.2.2.2 bt455.1 bt455.2.1 bt455.2.2.1 bt455.2.2.2.1 bt455.2.2.2.2.1 bt455.2.2.2.2.2.1 bt455.2.2.2.2.2.2.1 bt455.2.2.2.2.2.2.2.1 bt455.2.2.2.2.2.2.2.2.1 bt455.2.2.2.2.2.2.2.2.2).bind fun t475 => ((laws_toStream.f k a0_0 a0_1 a0_2 a0_3 l0_4 l0_5 l0_6 a0_7 l0_8 l0_9).bind fun bt476 => ((laws_toStream.f k a1_0 a1_1 a1_2 a1_3 l1_4 l1_5 l1_6 a1_7 l1_8 l1_9).bind fun bt497 => ((impl_SameStream.f bt476.1 bt476.2.1 bt476.2.2.1 bt476.2.2.2.1 bt476.2.2.2.2.1 bt476.2.2.2.2.2.1 bt476.2.2.2.2.2.2.1 bt476.2.2.2.2.2.2.2.1 bt476.2.2.2.2.2.2.2.2.1 bt476.2.2.2.2.2.2.2.2.2 bt497.1 bt497.2.1 bt497.2.2.1 bt497.2.2.2.1 bt497.2.2.2.2.1 bt497.2.2.2.2.2.1 bt497.2.2.2.2.2.2.1 bt497.2.2.2.2.2.2.2.1 bt497.2.2.2.2.2.2.2.2.1 bt497.2.2.2.2.2.2.2.2.2).bind fun t518 => (if (t518 != t475) = true then (some false) else ((laws_toStream.f k a0_0 a0_1 a0_2 a0_3 l0_4 l0_5 l0_6 a0_7 l0_8 l0_9).bind fun bt519 => ((laws_eqStream.f k bt476.1 bt476.2.1 bt476.2.2.1 bt476.2.2.2.1 bt476.2.2.2.2.1 bt476.2.2.2.2.2.1 bt476.2.2.2.2.2.2.1 bt476.2.2.2.2.2.2.2.1 bt476.2.2.2.2.2.2.2.2.1 bt476.2.2.2.2.2.2.2.2.2 bt519.1 bt519.2.1 bt519.2.2.1 bt519.2.2.2.1 bt519.2.2.2.2.1 bt519.2.2.2.2.2.1 bt519.2.2.2.2.2.2.1 bt519.2.2.2.2.2.2.2.1 bt519.2.2.2.2.2.2.2.2.1 bt519.2.2.2.2.2.2.2.2.2).bind fun t539 => (if t539 = true then ((laws_toStream.f k a1_0 a1_1 a1_2 a1_3 l1_4 l1_5 l1_6 a1_7 l1_8 l1_9).bind fun bt540 => ((laws_eqStream.f k bt497.1 bt497.2.1 bt497.2.2.1 bt497.2.2.2.1 bt497.2.2.2.2.1 bt497.2.2.2.2.2.1 bt497.2.2.2.2.2.2.1 bt497.2.2.2.2.2.2.2.1 bt497.2.2.2.2.2.2.2.2.1 bt497.2.2.2.2.2.2.2.2.2 bt540.1 bt540.2.1 bt540.2.2.1 bt540.2.2.2.1 bt540.2.2.2.2.1 bt540.2.2.2.2.2.1 bt540.2.2.2.2.2.2.1 bt540.2.2.2.2.2.2.2.1 bt540.2.2.2.2.2.2.2.2.1 bt540.2.2.2.2.2.2.2.2.2).bind fun t560 => (if t560 = true then (some true) else (some false)))) else (some false)))))))))))))) = some true := H
 have A3 := zA A30
 clear A30
 have HF4 := zA H
 clear H
 go_enter Tryz.func3, Tryz.ntmps3
 go_upto_if 14 with (first | ((with_reducible refine gate_dst (N := 2) rfl ?_); refine box_event ?hg (N := 2) ?hd (cs := #[.int .i64 a0_0, .int .i64 a0_1, .int .i64 a0_2, .int .i64 a0_3, .slice A0_4 l0_4.length c0_4, .slice A0_5 l0_5.length c0_5, .slice A0_6 l0_6.length c0_6, .int .i64 a0_7, .slice A0_8 l0_8.length c0_8, .slice A0_9 l0_9.length c0_9]) (t := 32) ?hr ?_; (case hd => rfl); (case hg => rfl); (case hr => first | (go_simp; done) | (go_simp; rfl)); intro gb431 hg w5 hbox hb; have n0_ := zA (below_step (by repeat (first | (with_reducible first | exact HB.out | apply zC | apply zB | apply zF) | exact HB.out)) hb); have n1_ := zA (hbox); have n2_ := zA ((by rw [hg]; exact (zL (by repeat (first | (with_reducible first | exact HB.out | apply zC | apply zB | apply zF) | exact HB.out))) : w.heap.size ≤ gb431)); have n3_ := zA ((by rw [hg]; exact (zL (by repeat (first | (with_reducible first | exact HB.out | apply zC | apply zB | apply zF) | exact HB.out))) : w.heap.size ≤ gb431)); clear HB; have HB := n0_; have BK431 := n1_; have GW431 := n2_; have GE431 := n3_; clear n0_ n1_ n2_ n3_; clear hb hbox hg) | ((with_reducible refine gate_dst (N := 3) rfl ?_); refine box_event ?hg (N := 3) ?hd (cs := #[.int .i64 a1_0, .int .i64 a1_1, .int .i64 a1_2, .int .i64 a1_3, .slice A1_4 l1_4.length c1_4, .slice A1_5 l1_5.length c1_5, .slice A1_6 l1_6.length c1_6, .int .i64 a1_7, .slice A1_8 l1_8.length c1_8, .slice A1_9 l1_9.length c1_9]) (t := 32) ?hr ?_; (case hd => rfl); (case hg => rfl); (case hr => first | (go_simp; done) | (go_simp; rfl)); intro gb432 hg w6 hbox hb; have n0_ := zA (blk_below (g := gb431) (o := .cells #[.int .i64 a0_0, .int .i64 a0_1, .int .i64 a0_2, .int .i64 a0_3, .slice A0_4 l0_4.length c0_4, .slice A0_5 l0_5.length c0_5, .slice A0_6 l0_6.length c0_6, .int .i64 a0_7, .slice A0_8 l0_8.length c0_8, .slice A0_9 l0_9.length c0_9] 32 (0, 0)) (by (with_reducible repeat (first | refine zG ?_ _ | refine zH ?_ | refine zD ?_ _)); exact BK431.out) hb); have n1_ := zA (below_step (by repeat (first | (with_reducible first | exact HB.out | apply zC | apply zB | apply zF | refine zE ?_ GE431.out) | exact HB.out)) hb); have n2_ := zA (hbox); have n3_ := zA ((by rw [hg]; exact (zL (by repeat (first | (with_reducible first | exact HB.out | apply zC | apply zB | apply zF | refine zE ?_ GE431.out) | exact HB.out))) : w.heap.size ≤ gb432)); have n4_ := zA ((by rw [hg]; exact (zL (by repeat (first | (with_reducible first | exact HB.out | apply zC | apply zB | apply zF | refine zE ?_ GE431.out) | exact HB.out))) : w.heap.size ≤ gb432)); have n5_ := zA ((by rw [hg]; exact Nat.ne_of_lt (blk_lt (g := gb431) (o := .cells #[.int .i64 a0_0, .int .i64 a0_1, .int .i64 a0_2, .int .i64 a0_3, .slice A0_4 l0_4.length c0_4, .slice A0_5 l0_5.length c0_5, .slice A0_6 l0_6.length c0_6, .int .i64 a0_7, .slice A0_8 l0_8.length c0_8, .slice A0_9 l0_9.length c0_9] 32 (0, 0)) (by (with_reducible repeat (first | refine zG ?_ _ | refine zH ?_ | refine zD ?_ _)); exact BK431.out)) : gb431 ≠ gb432)); have n6_ := zA ((by rw [hg]; exact Nat.ne_of_gt (blk_lt (g := gb431) (o := .cells #[.int .i64 a0_0, .int .i64 a0_1, .int .i64 a0_2, .int .i64 a0_3, .slice A0_4 l0_4.length c0_4, .slice A0_5 l0_5.length c0_5, .slice A0_6 l0_6.length c0_6, .int .i64 a0_7, .slice A0_8 l0_8.length c0_8, .slice A0_9 l0_9.length c0_9] 32 (0, 0)) (by (with_reducible repeat (first | refine zG ?_ _ | refine zH ?_ | refine zD ?_ _)); exact BK431.out)) : gb432 ≠ gb431)); clear BK431; clear HB; have BK431 := n0_; have HB := n1_; have BK432 := n2_; have GW432 := n3_; have GE432 := n4_; have NB431_432 := n5_; have NB432_431 := n6_; clear n0_ n1_ n2_ n3_ n4_ n5_ n6_; clear hb hbox hg; have hnb7 := NB431_432.out; have hnc7 := NB432_431.out; have hcz8_0 : w6.cell? ⟨gb431, 0, none⟩ = some (.int .i64 a0_0) := (zK BK431.out 0).trans rfl; have hcz8_1 : w6.cell? ⟨gb431, 1, none⟩ = some (.int .i64 a0_1) := (zK BK431.out 1).trans rfl; have hcz8_2 : w6.cell? ⟨gb431, 2, none⟩ = some (.int .i64 a0_2) := (zK BK431.out 2).trans rfl; have hcz8_3 : w6.cell? ⟨gb431, 3, none⟩ = some (.int .i64 a0_3) := (zK BK431.out 3).trans rfl; have hcz8_4 : w6.cell? ⟨gb431, 4, none⟩ = some (.slice A0_4 l0_4.length c0_4) := (zK BK431.out 4).trans rfl; have hcz8_5 : w6.cell? ⟨gb431, 5, none⟩ = some (.slice A0_5 l0_5.length c0_5) := (zK BK431.out 5).trans rfl; have hcz8_6 : w6.cell? ⟨gb431, 6, none⟩ = some (.slice A0_6 l0_6.length c0_6) := (zK BK431.out 6).trans rfl; have hcz8_7 : w6.cell? ⟨gb431, 7, none⟩ = some (.int .i64 a0_7) := (zK BK431.out 7).trans rfl; have hcz8_8 : w6.cell? ⟨gb431, 8, none⟩ = some (.slice A0_8 l0_8.length c0_8) := (zK BK431.out 8).trans rfl; have hcz8_9 : w6.cell? ⟨gb431, 9, none⟩ = some (.slice A0_9 l0_9.length c0_9) := (zK BK431.out 9).trans rfl; have hfz8_0 := zJ BK431.out 0; have hfz8_1 := zJ BK431.out 1; have hfz8_2 := zJ BK431.out 2; have hfz8_3 := zJ BK431.out 3; have hfz8_4 := zJ BK431.out 4; have hfz8_5 := zJ BK431.out 5; have hfz8_6 := zJ BK431.out 6; have hfz8_7 := zJ BK431.out 7; have hfz8_8 := zJ BK431.out 8; have hfz8_9 := zJ BK431.out 9) | ((with_reducible refine gate_callee (f := 4) rfl ?_); refine goesL_ (some 12) rfl rfl Tryz.func4 (by kernel_rfl) rfl #[.agg #[.int .i64 a0_0, .int .i64 a0_1, .int .i64 a0_2, .int .i64 a0_3, .slice A0_4 l0_4.length c0_4, .slice A0_5 l0_5.length c0_5, .slice A0_6 l0_6.length c0_6, .int .i64 a0_7, .slice A0_8 l0_8.length c0_8, .slice A0_9 l0_9.length c0_9], .int .i64 1048576] rfl (by (try simp only [zU, zV, zW]); first | done | rfl | (simp only [zR, zQ]; rfl)) ?_; (with_reducible refine (laws_szStream.calls k a0_0 a0_1 a0_2 a0_3 _ _ l0_4 _ _ l0_5 _ _ l0_6 a0_7 _ _ l0_8 _ _ l0_9 1048576 t433 _ ?side1 ?side2 ?side3 ?side4 ?side5 ?side6 ?side7 ?side8 ?side9 ?side10 A3.out).mono ?_); (case side1 => repeat (first | exact (Kd.C_below HR0_4.out HB.out) | (with_reducible refine yH ?_ _) | (with_reducible refine yF ?_ _) | (with_reducible refine yG ?_))); (case side2 => exact HC0_4.out); (case side3 => repeat (first | exact (Kd.C_below HR0_5.out HB.out) | (with_reducible refine yH ?_ _) | (with_reducible refine yF ?_ _) | (with_reducible refine yG ?_))); (case side4 => exact HC0_5.out); (case side5 => repeat (first | exact (Kd.C_below HR0_6.out HB.out) | (with_reducible refine yH ?_ _) | (with_reducible refine yF ?_ _) | (with_reducible refine yG ?_))); (case side6 => exact HC0_6.out); (case side7 => repeat (first | exact (Kd.C_below HR0_8.out HB.out) | (with_reducible refine yH ?_ _) | (with_reducible refine yF ?_ _) | (with_reducible refine yG ?_))); (case side8 => exact HC0_8.out); (case side9 => repeat (first | exact (Kd.C_below HR0_9.out HB.out) | (with_reducible refine yH ?_ _) | (with_reducible refine yF ?_ _) | (with_reducible refine yG ?_))); (case side10 => exact HC0_9.out); rintro e w9 ⟨rfl, hb⟩; refine ⟨_, rfl, ?_⟩; have n0_ := zA (blk_below (g := gb431) (o := .cells #[.int .i64 a0_0, .int .i64 a0_1, .int .i64 a0_2, .int .i64 a0_3, .slice A0_4 l0_4.length c0_4, .slice A0_5 l0_5.length c0_5, .slice A0_6 l0_6.length c0_6, .int .i64 a0_7, .slice A0_8 l0_8.length c0_8, .slice A0_9 l0_9.length c0_9] 32 (0, 0)) (by (with_reducible repeat (first | refine zG ?_ _ | refine zH ?_ | refine zD ?_ _)); exact BK431.out) hb); have n1_ := zA (blk_below (g := gb432) (o := .cells #[.int .i64 a1_0, .int .i64 a1_1, .int .i64 a1_2, .int .i64 a1_3, .slice A1_4 l1_4.length c1_4, .slice A1_5 l1_5.length c1_5, .slice A1_6 l1_6.length c1_6, .int .i64 a1_7, .slice A1_8 l1_8.length c1_8, .slice A1_9 l1_9.length c1_9] 32 (0, 0)) (by (with_reducible repeat (first | refine zG ?_ _ | refine zH ?_ | refine zD ?_ _)); exact BK432.out) hb); have n2_ := zA (below_step (by repeat (first | (with_reducible first | exact HB.out | apply zC | apply zB | apply zF | refine zE ?_ GE431.out | refine zE ?_ GE432.out) | exact HB.out)) hb); clear BK431; clear BK432; clear HB; have BK431 := n0_; have BK432 := n1_; have HB := n2_; clear n0_ n1_ n2_; (try clear hb); (try clear hb2); (try clear hk); (try clear hi)))
 have H := HF4.out
 clear HF4
 by_cases c10 : t433 < 0
 ·rw [if_pos c10] at H
  have c10b0 : decide (t433 < 0) = true := zT c10
  clear c10
  (first | rw [c10b0] | rw [c10b1] | rw [c10b2] | (simp only [i64_w, i32_w]; first | rw [c10b0] | rw [c10b1]) | skip)
  go_wp2
  go_ret
  exact ⟨by first | rfl | (simp [errW_none, errW_some] <;> rfl) | (simp [*, errW_none, errW_some] <;> rfl), by repeat (first | (with_reducible first | exact HB.out | apply zC | apply zB | apply zF | refine zE ?_ GE431.out | refine zE ?_ GE432.out) | exact HB.out)⟩
 ·rw [if_neg c10] at H
  have c10b0 : decide (t433 < 0) = false := decide_eq_false c10
  clear c10
  (first | rw [c10b0] | rw [c10b1] | rw [c10b2] | (simp only [i64_w, i32_w]; first | rw [c10b0] | rw [c10b1]) | skip)
  replace H := Option.bind_eq_some_iff.mp H
  obtain ⟨t434, A110, H⟩ := H
  replace H : (if t434 < 0 then (some true) else ((laws_toStream.f k a0_0 a0_1 a0_2 a0_3 l0_4 l0_5 l0_6 a0_7 l0_8 l0_9).bind fun bt435 => ((laws_toStream.f k a1_0 a1_1 a1_2 a1_3 l1_4 l1_5 l1_6 a1_7 l1_8 l1_9).bind fun bt455 => ((spec_SameStream.f k bt435.1 bt435.2.1 bt435.2.2.1 bt435.2.2.2.1 bt435.2.2.2.2.1 bt435.2.2.2.2.2.1 bt435.2.2.2.2.2.2.1 bt435.2.2.2.2.2.2.2.1 bt435.2.2.2.2.2.2.2.2.1 bt435.2.2.2.2.2.2.2.2.2 bt455.1 bt455.2.1 bt455.2.2.1 bt455.2.2.2.1 bt455.2.2.2.2.1 bt455.2.2.2.2.2.1 bt455.2.2.2.2.2.2.1 bt455.2.2.2.2.2.2.2.1 bt455.2.2.2.2.2.2.2.2.1 bt455.2.2.2.2.2.2.2.2.2).bind fun t475 => ((laws_toStream.f k a0_0 a0_1 a0_2 a0_3 l0_4 l0_5 l0_6 a0_7 l0_8 l0_9).bind fun bt476 => ((laws_toStream.f k a1_0 a1_1 a1_2 a1_3 l1_4 l1_5 l1_6 a1_7 l1_8 l1_9).bind fun bt497 => ((impl_SameStream.f bt476.1 bt476.2.1 bt476.2.2.1 bt476.2.2.2.1 bt476.2.2.2.2.1 bt476.2.2.2.2.2.1 bt476.2.2.2.2.2.2.1 bt476.2.2.2.2.2.2.2.1 bt476.2.2.2.2.2.2.2.2.1 bt476.2.2.2.2.2.2.2.2.2 bt497.1 bt497.2.1 bt497.2.2.1 bt497.2.2.2.1 bt497.2.2.2.2.1 bt497.2.2.2.2.2.1 bt497.2.2.2.2.2.2.1 bt497.2.2.2.2.2.2.2.1 bt497.2.2.2.2.2.2.2.2.1 bt497.2.2.2.2.2.2.2.2.2).bind fun t518 => (if (t518 != t475) = true then (some false) else ((laws_toStream.f k a0_0 a0_1 a0_2 a0_3 l0_4 l0_5 l0_6 a0_7 l0_8 l0_9).bind fun bt519 => ((laws_eqStream.f k bt476.1 bt476.2.1 bt476.2.2.1 bt476.2.2.2.1 bt476.2.2.2.2.1 bt476.2.2.2.2.2.1 bt476.2.2.2.2.2.2.1 bt476.2.2.2.2.2.2.2.1 bt476.2.2.2.2.2.2.2.2.1 bt476.2.2.2.2.2.2.2.2.2 bt519.1 bt519.2.1 bt519.2.2.1 bt519.2.2.2.1 bt519.2.2.2.2.1 bt519.2.2.2.2.2.1 bt519.2.2.2.2.2.2.1 bt519.2.2.2.2.2.2.2.1 bt519.2.2.2.2.2.2.2.2.1 bt519.2.2.2.2.2.2.2.2.2).bind fun t539 => (if t539 = true then ((laws_toStream.f k a1_0 a1_1 a1_2 a1_3 l1_4 l1_5 l1_6 a1_7 l1_8 l1_9).bind fun bt540 => ((laws_eqStream.f k bt497.1 bt497.2.1 bt497.2.2.1 bt497.2.2.2.1 bt497.2.2.2.2.1 bt497.2.2.2.2.2.1 bt497.2.2.2.2.2.2.1 bt497.2.2.2.2.2.2.2.1 bt497.2.2.2.2.2.2.2.2.1 bt497.2.2.2.2.2.2.2.2.2 bt540.1 bt540.2.1 bt540.2.2.1 bt540.2.2.2.1 bt540.2.2.2.2.1 bt540.2.2.2.2.2.1 bt540.2.2.2.2.2.2.1 bt540.2.2.2.2.2.2.2.1 bt540.2.2.2.2.2.2.2.2.1 bt540.2.2.2.2.2.2.2.2.2).bind fun t560 => (if t560 = true then (some true) else (some false)))) else (some false)))))))))))) = some true := H
  have A11 := zA A110
  clear A110
  have HF12 := zA H
  clear H
  have hnb13 := NB432_431.out
  have hnc13 := NB431_432.out
  have hcz14_0 : w9.cell? ⟨gb432, 0, none⟩ = some (.int .i64 a1_0) := (zK BK432.out 0).trans rfl
  have hcz14_1 : w9.cell? ⟨gb432, 1, none⟩ = some (.int .i64 a1_1) := (zK BK432.out 1).trans rfl
  have hcz14_2 : w9.cell? ⟨gb432, 2, none⟩ = some (.int .i64 a1_2) := (zK BK432.out 2).trans rfl
  have hcz14_3 : w9.cell? ⟨gb432, 3, none⟩ = some (.int .i64 a1_3) := (zK BK432.out 3).trans rfl
  have hcz14_4 : w9.cell? ⟨gb432, 4, none⟩ = some (.slice A1_4 l1_4.length c1_4) := (zK BK432.out 4).trans rfl
  have hcz14_5 : w9.cell? ⟨gb432, 5, none⟩ = some (.slice A1_5 l1_5.length c1_5) := (zK BK432.out 5).trans rfl
  have hcz14_6 : w9.cell? ⟨gb432, 6, none⟩ = some (.slice A1_6 l1_6.length c1_6) := (zK BK432.out 6).trans rfl
  have hcz14_7 : w9.cell? ⟨gb432, 7, none⟩ = some (.int .i64 a1_7) := (zK BK432.out 7).trans rfl
  have hcz14_8 : w9.cell? ⟨gb432, 8, none⟩ = some (.slice A1_8 l1_8.length c1_8) := (zK BK432.out 8).trans rfl
  have hcz14_9 : w9.cell? ⟨gb432, 9, none⟩ = some (.slice A1_9 l1_9.length c1_9) := (zK BK432.out 9).trans rfl
  have hfz14_0 := zJ BK432.out 0
  have hfz14_1 := zJ BK432.out 1
  have hfz14_2 := zJ BK432.out 2
  have hfz14_3 := zJ BK432.out 3
  have hfz14_4 := zJ BK432.out 4
  have hfz14_5 := zJ BK432.out 5
  have hfz14_6 := zJ BK432.out 6
  have hfz14_7 := zJ BK432.out 7
  have hfz14_8 := zJ BK432.out 8
  have hfz14_9 := zJ BK432.out 9
  go_upto_if 19 with (first | ((with_reducible refine gate_callee (f := 4) rfl ?_); refine goesL_ (some 17) rfl rfl Tryz.func4 (by kernel_rfl) rfl #[.agg #[.int .i64 a1_0, .int .i64 a1_1, .int .i64 a1_2, .int .i64 a1_3, .slice A1_4 l1_4.length c1_4, .slice A1_5 l1_5.length c1_5, .slice A1_6 l1_6.length c1_6, .int .i64 a1_7, .slice A1_8 l1_8.length c1_8, .slice A1_9 l1_9.length c1_9], .int .i64 t433] rfl (by (try simp only [zU, zV, zW]); first | done | rfl | (simp only [zR, zQ]; rfl)) ?_; (with_reducible refine (laws_szStream.calls k a1_0 a1_1 a1_2 a1_3 _ _ l1_4 _ _ l1_5 _ _ l1_6 a1_7 _ _ l1_8 _ _ l1_9 t433 t434 _ ?side1 ?side2 ?side3 ?side4 ?side5 ?side6 ?side7 ?side8 ?side9 ?side10 A11.out).mono ?_); (case side1 => repeat (first | exact (Kd.C_below HR1_4.out HB.out) | (with_reducible refine yH ?_ _) | (with_reducible refine yF ?_ _) | (with_reducible refine yG ?_))); (case side2 => exact HC1_4.out); (case side3 => repeat (first | exact (Kd.C_below HR1_5.out HB.out) | (with_reducible refine yH ?_ _) | (with_reducible refine yF ?_ _) | (with_reducible refine yG ?_))); (case side4 => exact HC1_5.out); (case side5 => repeat (first | exact (Kd.C_below HR1_6.out HB.out) | (with_reducible refine yH ?_ _) | (with_reducible refine yF ?_ _) | (with_reducible refine yG ?_))); (case side6 => exact HC1_6.out); (case side7 => repeat (first | exact (Kd.C_below HR1_8.out HB.out) | (with_reducible refine yH ?_ _) | (with_reducible refine yF ?_ _) | (with_reducible refine yG ?_))); (case side8 => exact HC1_8.out); (case side9 => repeat (first | exact (Kd.C_below HR1_9.out HB.out) | (with_reducible refine yH ?_ _) | (with_reducible refine yF ?_ _) | (with_reducible refine yG ?_))); (case side10 => exact HC1_9.out); rintro e w15 ⟨rfl, hb⟩; refine ⟨_, rfl, ?_⟩; have n0_ := zA (blk_below (g := gb431) (o := .cells #[.int .i64 a0_0, .int .i64 a0_1, .int .i64 a0_2, .int .i64 a0_3, .slice A0_4 l0_4.length c0_4, .slice A0_5 l0_5.length c0_5, .slice A0_6 l0_6.length c0_6, .int .i64 a0_7, .slice A0_8 l0_8.length c0_8, .slice A0_9 l0_9.length c0_9] 32 (0, 0)) (by (with_reducible repeat (first | refine zG ?_ _ | refine zH ?_ | refine zD ?_ _)); exact BK431.out) hb); have n1_ := zA (blk_below (g := gb432) (o := .cells #[.int .i64 a1_0, .int .i64 a1_1, .int .i64 a1_2, .int .i64 a1_3, .slice A1_4 l1_4.length c1_4, .slice A1_5 l1_5.length c1_5, .slice A1_6 l1_6.length c1_6, .int .i64 a1_7, .slice A1_8 l1_8.length c1_8, .slice A1_9 l1_9.length c1_9] 32 (0, 0)) (by (with_reducible repeat (first | refine zG ?_ _ | refine zH ?_ | refine zD ?_ _)); exact BK432.out) hb); have n2_ := zA (below_step (by repeat (first | (with_reducible first | exact HB.out | apply zC | apply zB | apply zF | refine zE ?_ GE431.out | refine zE ?_ GE432.out) | exact HB.out)) hb); clear BK431; clear BK432; clear HB; have BK431 := n0_; have BK432 := n1_; have HB := n2_; clear n0_ n1_ n2_; (try clear hb); (try clear hb2); (try clear hk); (try clear hi)))
  have H := HF12.out
  clear HF12
  by_cases c16 : t434 < 0
  ·rw [if_pos c16] at H
   have c16b0 : decide (t434 < 0) = true := zT c16
   clear c16
   (first | rw [c16b0] | rw [c16b1] | rw [c16b2] | (simp only [i64_w, i32_w]; first | rw [c16b0] | rw [c16b1]) | skip)
   go_wp2
   go_ret
   exact ⟨by first | rfl | (simp [errW_none, errW_some] <;> rfl) | (simp [*, errW_none, errW_some] <;> rfl), by repeat (first | (with_reducible first | exact HB.out | apply zC | apply zB | apply zF | refine zE ?_ GE431.out | refine zE ?_ GE432.out) | exact HB.out)⟩
  ·rw [if_neg c16] at H
   have c16b0 : decide (t434 < 0) = false := decide_eq_false c16
   clear c16
   (first | rw [c16b0] | rw [c16b1] | rw [c16b2] | (simp only [i64_w, i32_w]; first | rw [c16b0] | rw [c16b1]) | skip)
   replace H := Option.bind_eq_some_iff.mp H
   obtain ⟨⟨t435, t436, t437, t438, t439, t442, t445, t448, t449, t452⟩, A170, H⟩ := H
   replace H : ((laws_toStream.f k a1_0 a1_1 a1_2 a1_3 l1_4 l1_5 l1_6 a1_7 l1_8 l1_9).bind fun bt455 => ((spec_SameStream.f k t435 t436 t437 t438 t439 t442 t445 t448 t449 t452 bt455.1 bt455.2.1 bt455.2.2.1 bt455.2.2.2.1 bt455.2.2.2.2.1 bt455.2.2.2.2.2.1 bt455.2.2.2.2.2.2.1 bt455.2.2.2.2.2.2.2.1 bt455.2.2.2.2.2.2.2.2.1 bt455.2.2.2.2.2.2.2.2.2).bind fun t475 => ((laws_toStream.f k a0_0 a0_1 a0_2 a0_3 l0_4 l0_5 l0_6 a0_7 l0_8 l0_9).bind fun bt476 => ((laws_toStream.f k a1_0 a1_1 a1_2 a1_3 l1_4 l1_5 l1_6 a1_7 l1_8 l1_9).bind fun bt497 => ((impl_SameStream.f bt476.1 bt476.2.1 bt476.2.2.1 bt476.2.2.2.1 bt476.2.2.2.2.1 bt476.2.2.2.2.2.1 bt476.2.2.2.2.2.2.1 bt476.2.2.2.2.2.2.2.1 bt476.2.2.2.2.2.2.2.2.1 bt476.2.2.2.2.2.2.2.2.2 bt497.1 bt497.2.1 bt497.2.2.1 bt497.2.2.2.1 bt497.2.2.2.2.1 bt497.2.2.2.2.2.1 bt497.2.2.2.2.2.2.1 bt497.2.2.2.2.2.2.2.1 bt497.2.2.2.2.2.2.2.2.1 bt497.2.2.2.2.2.2.2.2.2).bind fun t518 => (if (t518 != t475) = true then (some false) else ((laws_toStream.f k a0_0 a0_1 a0_2 a0_3 l0_4 l0_5 l0_6 a0_7 l0_8 l0_9).bind fun bt519 => ((laws_eqStream.f k bt476.1 bt476.2.1 bt476.2.2.1 bt476.2.2.2.1 bt476.2.2.2.2.1 bt476.2.2.2.2.2.1 bt476.2.2.2.2.2.2.1 bt476.2.2.2.2.2.2.2.1 bt476.2.2.2.2.2.2.2.2.1 bt476.2.2.2.2.2.2.2.2.2 bt519.1 bt519.2.1 bt519.2.2.1 bt519.2.2.2.1 bt519.2.2.2.2.1 bt519.2.2.2.2.2.1 bt519.2.2.2.2.2.2.1 bt519.2.2.2.2.2.2.2.1 bt519.2.2.2.2.2.2.2.2.1 bt519.2.2.2.2.2.2.2.2.2).bind fun t539 => (if t539 = true then ((laws_toStream.f k a1_0 a1_1 a1_2 a1_3 l1_4 l1_5 l1_6 a1_7 l1_8 l1_9).bind fun bt540 => ((laws_eqStream.f k bt497.1 bt497.2.1 bt497.2.2.1 bt497.2.2.2.1 bt497.2.2.2.2.1 bt497.2.2.2.2.2.1 bt497.2.2.2.2.2.2.1 bt497.2.2.2.2.2.2.2.1 bt497.2.2.2.2.2.2.2.2.1 bt497.2.2.2.2.2.2.2.2.2 bt540.1 bt540.2.1 bt540.2.2.1 bt540.2.2.2.1 bt540.2.2.2.2.1 bt540.2.2.2.2.2.1 bt540.2.2.2.2.2.2.1 bt540.2.2.2.2.2.2.2.1 bt540.2.2.2.2.2.2.2.2.1 bt540.2.2.2.2.2.2.2.2.2).bind fun t560 => (if t560 = true then (some true) else (some false)))) else (some false)))))))))) = some true := H
   have A17 := zA A170
   clear A170
   replace H := Option.bind_eq_some_iff.mp H
   obtain ⟨⟨t455, t456, t457, t458, t459, t462, t465, t468, t469, t472⟩, A180, H⟩ := H
   replace H : ((spec_SameStream.f k t435 t436 t437 t438 t439 t442 t445 t448 t449 t452 t455 t456 t457 t458 t459 t462 t465 t468 t469 t472).bind fun t475 => ((laws_toStream.f k a0_0 a0_1 a0_2 a0_3 l0_4 l0_5 l0_6 a0_7 l0_8 l0_9).bind fun bt476 => ((laws_toStream.f k a1_0 a1_1 a1_2 a1_3 l1_4 l1_5 l1_6 a1_7 l1_8 l1_9).bind fun bt497 => ((impl_SameStream.f bt476.1 bt476.2.1 bt476.2.2.1 bt476.2.2.2.1 bt476.2.2.2.2.1 bt476.2.2.2.2.2.1 bt476.2.2.2.2.2.2.1 bt476.2.2.2.2.2.2.2.1 bt476.2.2.2.2.2.2.2.2.1 bt476.2.2.2.2.2.2.2.2.2 bt497.1 bt497.2.1 bt497.2.2.1 bt497.2.2.2.1 bt497.2.2.2.2.1 bt497.2.2.2.2.2.1 bt497.2.2.2.2.2.2.1 bt497.2.2.2.2.2.2.2.1 bt497.2.2.2.2.2.2.2.2.1 bt497.2.2.2.2.2.2.2.2.2).bind fun t518 => (if (t518 != t475) = true then (some false) else ((laws_toStream.f k a0_0 a0_1 a0_2 a0_3 l0_4 l0_5 l0_6 a0_7 l0_8 l0_9).bind fun bt519 => ((laws_eqStream.f k bt476.1 bt476.2.1 bt476.2.2.1 bt476.2.2.2.1 bt476.2.2.2.2.1 bt476.2.2.2.2.2.1 bt476.2.2.2.2.2.2.1 bt476.2.2.2.2.2.2.2.1 bt476.2.2.2.2.2.2.2.2.1 bt476.2.2.2.2.2.2.2.2.2 bt519.1 bt519.2.1 bt519.2.2.1 bt519.2.2.2.1 bt519.2.2.2.2.1 bt519.2.2.2.2.2.1 bt519.2.2.2.2.2.2.1 bt519.2.2.2.2.2.2.2.1 bt519.2.2.2.2.2.2.2.2.1 bt519.2.2.2.2.2.2.2.2.2).bind fun t539 => (if t539 = true then ((laws_toStream.f k a1_0 a1_1 a1_2 a1_3 l1_4 l1_5 l1_6 a1_7 l1_8 l1_9).bind fun bt540 => ((laws_eqStream.f k bt497.1 bt497.2.1 bt497.2.2.1 bt497.2.2.2.1 bt497.2.2.2.2.1 bt497.2.2.2.2.2.1 bt497.2.2.2.2.2.2.1 bt497.2.2.2.2.2.2.2.1 bt497.2.2.2.2.2.2.2.2.1 bt497.2.2.2.2.2.2.2.2.2 bt540.1 bt540.2.1 bt540.2.2.1 bt540.2.2.2.1 bt540.2.2.2.2.1 bt540.2.2.2.2.2.1 bt540.2.2.2.2.2.2.1 bt540.2.2.2.2.2.2.2.1 bt540.2.2.2.2.2.2.2.2.1 bt540.2.2.2.2.2.2.2.2.2).bind fun t560 => (if t560 = true then (some true) else (some false)))) else (some false))))))))) = some true := H
   have A18 := zA A180
   clear A180
   replace H := Option.bind_eq_some_iff.mp H
   obtain ⟨t475, A190, H⟩ := H
   replace H : ((laws_toStream.f k a0_0 a0_1 a0_2 a0_3 l0_4 l0_5 l0_6 a0_7 l0_8 l0_9).bind fun bt476 => ((laws_toStream.f k a1_0 a1_1 a1_2 a1_3 l1_4 l1_5 l1_6 a1_7 l1_8 l1_9).bind fun bt497 => ((impl_SameStream.f bt476.1 bt476.2.1 bt476.2.2.1 bt476.2.2.2.1 bt476.2.2.2.2.1 bt476.2.2.2.2.2.1 bt476.2.2.2.2.2.2.1 bt476.2.2.2.2.2.2.2.1 bt476.2.2.2.2.2.2.2.2.1 bt476.2.2.2.2.2.2.2.2.2 bt497.1 bt497.2.1 bt497.2.2.1 bt497.2.2.2.1 bt497.2.2.2.2.1 bt497.2.2.2.2.2.1 bt497.2.2.2.2.2.2.1 bt497.2.2.2.2.2.2.2.1 bt497.2.2.2.2.2.2.2.2.1 bt497.2.2.2.2.2.2.2.2.2).bind fun t518 => (if (t518 != t475) = true then (some false) else ((laws_toStream.f k a0_0 a0_1 a0_2 a0_3 l0_4 l0_5 l0_6 a0_7 l0_8 l0_9).bind fun bt519 => ((laws_eqStream.f k bt476.1 bt476.2.1 bt476.2.2.1 bt476.2.2.2.1 bt476.2.2.2.2.1 bt476.2.2.2.2.2.1 bt476.2.2.2.2.2.2.1 bt476.2.2.2.2.2.2.2.1 bt476.2.2.2.2.2.2.2.2.1 bt476.2.2.2.2.2.2.2.2.2 bt519.1 bt519.2.1 bt519.2.2.1 bt519.2.2.2.1 bt519.2.2.2.2.1 bt519.2.2.2.2.2.1 bt519.2.2.2.2.2.2.1 bt519.2.2.2.2.2.2.2.1 bt519.2.2.2.2.2.2.2.2.1 bt519.2.2.2.2.2.2.2.2.2).bind fun t539 => (if t539 = true then ((laws_toStream.f k a1_0 a1_1 a1_2 a1_3 l1_4 l1_5 l1_6 a1_7 l1_8 l1_9).bind fun bt540 => ((laws_eqStream.f k bt497.1 bt497.2.1 bt497.2.2.1 bt497.2.2.2.1 bt497.2.2.2.2.1 bt497.2.2.2.2.2.1 bt497.2.2.2.2.2.2.1 bt497.2.2.2.2.2.2.2.1 bt497.2.2.2.2.2.2.2.2.1 bt497.2.2.2.2.2.2.2.2.2 bt540.1 bt540.2.1 bt540.2.2.1 bt540.2.2.2.1 bt540.2.2.2.2.1 bt540.2.2.2.2.2.1 bt540.2.2.2.2.2.2.1 bt540.2.2.2.2.2.2.2.1 bt540.2.2.2.2.2.2.2.2.1 bt540.2.2.2.2.2.2.2.2.2).bind fun t560 => (if t560 = true then (some true) else (some false)))) else (some false)))))))) = some true := H
   have A19 := zA A190
   clear A190
   replace H := Option.bind_eq_some_iff.mp H
   obtain ⟨⟨t476, t477, t478, t479, t480, t483, t486, t489, t490, t493⟩, A200, H⟩ := H
   replace H : ((laws_toStream.f k a1_0 a1_1 a1_2 a1_3 l1_4 l1_5 l1_6 a1_7 l1_8 l1_9).bind fun bt497 => ((impl_SameStream.f t476 t477 t478 t479 t480 t483 t486 t489 t490 t493 bt497.1 bt497.2.1 bt497.2.2.1 bt497.2.2.2.1 bt497.2.2.2.2.1 bt497.2.2.2.2.2.1 bt497.2.2.2.2.2.2.1 bt497.2.2.2.2.2.2.2.1 bt497.2.2.2.2.2.2.2.2.1 bt497.2.2.2.2.2.2.2.2.2).bind fun t518 => (if (t518 != t475) = true then (some false) else ((laws_toStream.f k a0_0 a0_1 a0_2 a0_3 l0_4 l0_5 l0_6 a0_7 l0_8 l0_9).bind fun bt519 => ((laws_eqStream.f k t476 t477 t478 t479 t480 t483 t486 t489 t490 t493 bt519.1 bt519.2.1 bt519.2.2.1 bt519.2.2.2.1 bt519.2.2.2.2.1 bt519.2.2.2.2.2.1 bt519.2.2.2.2.2.2.1 bt519.2.2.2.2.2.2.2.1 bt519.2.2.2.2.2.2.2.2.1 bt519.2.2.2.2.2.2.2.2.2).bind fun t539 => (if t539 = true then ((laws_toStream.f k a1_0 a1_1 a1_2 a1_3 l1_4 l1_5 l1_6 a1_7 l1_8 l1_9).bind fun bt540 => ((laws_eqStream.f k bt497.1 bt497.2.1 bt497.2.2.1 bt497.2.2.2.1 bt497.2.2.2.2.1 bt497.2.2.2.2.2.1 bt497.2.2.2.2.2.2.1 bt497.2.2.2.2.2.2.2.1 bt497.2.2.2.2.2.2.2.2.1 bt497.2.2.2.2.2.2.2.2.2 bt540.1 bt540.2.1 bt540.2.2.1 bt540.2.2.2.1 bt540.2.2.2.2.1 bt540.2.2.2.2.2.1 bt540.2.2.2.2.2.2.1 bt540.2.2.2.2.2.2.2.1 bt540.2.2.2.2.2.2.2.2.1 bt540.2.2.2.2.2.2.2.2.2).bind fun t560 => (if t560 = true then (some true) else (some false)))) else (some false))))))) = some true := H
   have A20 := zA A200
   clear A200
   replace H := Option.bind_eq_some_iff.mp H
   obtain ⟨⟨t497, t498, t499, t500, t501, t504, t507, t510, t511, t514⟩, A210, H⟩ := H
   replace H : ((impl_SameStream.f t476 t477 t478 t479 t480 t483 t486 t489 t490 t493 t497 t498 t499 t500 t501 t504 t507 t510 t511 t514).bind fun t518 => (if (t518 != t475) = true then (some false) else ((laws_toStream.f k a0_0 a0_1 a0_2 a0_3 l0_4 l0_5 l0_6 a0_7 l0_8 l0_9).bind fun bt519 => ((laws_eqStream.f k t476 t477 t478 t479 t480 t483 t486 t489 t490 t493 bt519.1 bt519.2.1 bt519.2.2.1 bt519.2.2.2.1 bt519.2.2.2.2.1 bt519.2.2.2.2.2.1 bt519.2.2.2.2.2.2.1 bt519.2.2.2.2.2.2.2.1 bt519.2.2.2.2.2.2.2.2.1 bt519.2.2.2.2.2.2.2.2.2).bind fun t539 => (if t539 = true then ((laws_toStream.f k a1_0 a1_1 a1_2 a1_3 l1_4 l1_5 l1_6 a1_7 l1_8 l1_9).bind fun bt540 => ((laws_eqStream.f k t497 t498 t499 t500 t501 t504 t507 t510 t511 t514 bt540.1 bt540.2.1 bt540.2.2.1 bt540.2.2.2.1 bt540.2.2.2.2.1 bt540.2.2.2.2.2.1 bt540.2.2.2.2.2.2.1 bt540.2.2.2.2.2.2.2.1 bt540.2.2.2.2.2.2.2.2.1 bt540.2.2.2.2.2.2.2.2.2).bind fun t560 => (if t560 = true then (some true) else (some false)))) else (some false)))))) = some true := H
   have A21 := zA A210
   clear A210
   replace H := Option.bind_eq_some_iff.mp H
   obtain ⟨t518, A220, H⟩ := H
   replace H : (if (t518 != t475) = true then (some false) else ((laws_toStream.f k a0_0 a0_1 a0_2 a0_3 l0_4 l0_5 l0_6 a0_7 l0_8 l0_9).bind fun bt519 => ((laws_eqStream.f k t476 t477 t478 t479 t480 t483 t486 t489 t490 t493 bt519.1 bt519.2.1 bt519.2.2.1 bt519.2.2.2.1 bt519.2.2.2.2.1 bt519.2.2.2.2.2.1 bt519.2.2.2.2.2.2.1 bt519.2.2.2.2.2.2.2.1 bt519.2.2.2.2.2.2.2.2.1 bt519.2.2.2.2.2.2.2.2.2).bind fun t539 => (if t539 = true then ((laws_toStream.f k a1_0 a1_1 a1_2 a1_3 l1_4 l1_5 l1_6 a1_7 l1_8 l1_9).bind fun bt540 => ((laws_eqStream.f k t497 t498 t499 t500 t501 t504 t507 t510 t511 t514 bt540.1 bt540.2.1 bt540.2.2.1 bt540.2.2.2.1 bt540.2.2.2.2.1 bt540.2.2.2.2.2.1 bt540.2.2.2.2.2.2.1 bt540.2.2.2.2.2.2.2.1 bt540.2.2.2.2.2.2.2.2.1 bt540.2.2.2.2.2.2.2.2.2).bind fun t560 => (if t560 = true then (some true) else (some false)))) else (some false))))) = some true := H
   have A22 := zA A220
   clear A220
   have HF23 := zA H
   clear H
   try go_wp2
   have n0_ := zA (zH BK431.out)
   have n1_ := zA (zH BK432.out)
   have n2_ := zA (zF HB.out)
   clear BK431
   clear BK432
   clear HB
   have BK431 := n0_
   have BK432 := n1_
   have HB := n2_
   clear n0_ n1_ n2_
   refine start_ (n := 6) (S := fun w' => w'.cell? ⟨gb431, 0, none⟩ = some (.int .i64 a0_0) ∧ w'.cell? ⟨gb431, 1, none⟩ = some (.int .i64 a0_1) ∧ w'.cell? ⟨gb431, 2, none⟩ = some (.int .i64 a0_2) ∧ w'.cell? ⟨gb431, 3, none⟩ = some (.int .i64 a0_3) ∧ w'.cell? ⟨gb431, 4, none⟩ = some (.slice A0_4 l0_4.length c0_4) ∧ w'.cell? ⟨gb431, 5, none⟩ = some (.slice A0_5 l0_5.length c0_5) ∧ w'.cell? ⟨gb431, 6, none⟩ = some (.slice A0_6 l0_6.length c0_6) ∧ w'.cell? ⟨gb431, 7, none⟩ = some (.int .i64 a0_7) ∧ w'.cell? ⟨gb431, 8, none⟩ = some (.slice A0_8 l0_8.length c0_8) ∧ w'.cell? ⟨gb431, 9, none⟩ = some (.slice A0_9 l0_9.length c0_9) ∧ w'.cell? ⟨gb432, 0, none⟩ = some (.int .i64 a1_0) ∧ w'.cell? ⟨gb432, 1, none⟩ = some (.int .i64 a1_1) ∧ w'.cell? ⟨gb432, 2, none⟩ = some (.int .i64 a1_2) ∧ w'.cell? ⟨gb432, 3, none⟩ = some (.int .i64 a1_3) ∧ w'.cell? ⟨gb432, 4, none⟩ = some (.slice A1_4 l1_4.length c1_4) ∧ w'.cell? ⟨gb432, 5, none⟩ = some (.slice A1_5 l1_5.length c1_5) ∧ w'.cell? ⟨gb432, 6, none⟩ = some (.slice A1_6 l1_6.length c1_6) ∧ w'.cell? ⟨gb432, 7, none⟩ = some (.int .i64 a1_7) ∧ w'.cell? ⟨gb432, 8, none⟩ = some (.slice A1_8 l1_8.length c1_8) ∧ w'.cell? ⟨gb432, 9, none⟩ = some (.slice A1_9 l1_9.length c1_9)) (ds := []) #[false, false, false, false, false, false] (by kernel_rfl) rfl rfl ⟨(zK BK431.out 0).trans rfl, (zK BK431.out 1).trans rfl, (zK BK431.out 2).trans rfl, (zK BK431.out 3).trans rfl, (zK BK431.out 4).trans rfl, (zK BK431.out 5).trans rfl, (zK BK431.out 6).trans rfl, (zK BK431.out 7).trans rfl, (zK BK431.out 8).trans rfl, (zK BK431.out 9).trans rfl, (zK BK432.out 0).trans rfl, (zK BK432.out 1).trans rfl, (zK BK432.out 2).trans rfl, (zK BK432.out 3).trans rfl, (zK BK432.out 4).trans rfl, (zK BK432.out 5).trans rfl, (zK BK432.out 6).trans rfl, (zK BK432.out 7).trans rfl, (zK BK432.out 8).trans rfl, (zK BK432.out 9).trans rfl⟩ (fun hHeld => ?_)
   generalize w15.drew = w24 at BK431 BK432 HB hHeld ⊢
   refine take_ (i := 0) (N := some 20) (v := ?_) (a' := ?_) #[true, false, false, false, false, false] rfl rfl (by kernel_rfl) (fun _ _ _ h => h) (Or.inl ⟨by rfl, ?_⟩) hHeld ?_ ?_
   rotate_left
   ·rintro w' ⟨s0, s1, s2, s3, s4, s5, s6, s7, s8, s9, s10, s11, s12, s13, s14, s15, s16, s17, s18, s19⟩
    go_simp
    with_reducible rfl
   rotate_left
   ·simp only [Act.put, List.setIfInBounds_toArray, List.set_cons_zero, List.set_cons_succ, i64_w, i32_w]
    rfl
   refine take_ (i := 2) (N := some 22) (v := ?_) (a' := ?_) #[true, false, true, false, false, false] rfl rfl (by kernel_rfl) (fun _ _ _ h => h) (Or.inl ⟨by rfl, ?_⟩) hHeld ?_ ?_
   rotate_left
   ·rintro w' ⟨s0, s1, s2, s3, s4, s5, s6, s7, s8, s9, s10, s11, s12, s13, s14, s15, s16, s17, s18, s19⟩
    go_simp
    with_reducible rfl
   rotate_left
   ·simp only [Act.put, List.setIfInBounds_toArray, List.set_cons_zero, List.set_cons_succ, i64_w, i32_w]
    rfl
   refine one_ (i := 1) (N := some 21) #[true, true, true, false, false, false] rfl rfl (by kernel_rfl) (by decide) (fun K hK => ?_)
   refine goes_ Tryz.func6 (by kernel_rfl) rfl #[.agg #[.int .i64 a0_0, .int .i64 a0_1, .int .i64 a0_2, .int .i64 a0_3, .slice A0_4 l0_4.length c0_4, .slice A0_5 l0_5.length c0_5, .slice A0_6 l0_6.length c0_6, .int .i64 a0_7, .slice A0_8 l0_8.length c0_8, .slice A0_9 l0_9.length c0_9]] (by rfl) rfl rfl (by (try simp only [zU, zV, zW]); first | done | rfl | (simp only [zR, zQ]; rfl)) ?_
   with_reducible refine (laws_toStream.calls k a0_0 a0_1 a0_2 a0_3 _ _ l0_4 _ _ l0_5 _ _ l0_6 a0_7 _ _ l0_8 _ _ l0_9 t435 t436 t437 t438 t439 t442 t445 t448 t449 t452 _ ?side1 ?side2 ?side3 ?side4 ?side5 ?side6 ?side7 ?side8 ?side9 ?side10 A17.out).mono ?_
   (case side1 => repeat (first | exact (Kd.C_below HR0_4.out HB.out) | (with_reducible refine yH ?_ _) | (with_reducible refine yF ?_ _) | (with_reducible refine yG ?_)))
   (case side2 => exact HC0_4.out)
   (case side3 => repeat (first | exact (Kd.C_below HR0_5.out HB.out) | (with_reducible refine yH ?_ _) | (with_reducible refine yF ?_ _) | (with_reducible refine yG ?_)))
   (case side4 => exact HC0_5.out)
   (case side5 => repeat (first | exact (Kd.C_below HR0_6.out HB.out) | (with_reducible refine yH ?_ _) | (with_reducible refine yF ?_ _) | (with_reducible refine yG ?_)))
   (case side6 => exact HC0_6.out)
   (case side7 => repeat (first | exact (Kd.C_below HR0_8.out HB.out) | (with_reducible refine yH ?_ _) | (with_reducible refine yF ?_ _) | (with_reducible refine yG ?_)))
   (case side8 => exact HC0_8.out)
   (case side9 => repeat (first | exact (Kd.C_below HR0_9.out HB.out) | (with_reducible refine yH ?_ _) | (with_reducible refine yF ?_ _) | (with_reducible refine yG ?_)))
   (case side10 => exact HC0_9.out)
   rintro e w25 ⟨v440, v443, v446, v450, v453, rfl, ho0, ho1, ho2, ho3, ho4, hb⟩
   refine ⟨_, rfl, ?_⟩
   have n0_ := zA (Kd.R_lower ho0 (zL (by repeat (first | (with_reducible first | exact HB.out | apply zC | apply zB | apply zF | refine zE ?_ GE431.out | refine zE ?_ GE432.out) | exact HB.out))))
   have n1_ := zA (Kd.S_lower ho1 (zL (by repeat (first | (with_reducible first | exact HB.out | apply zC | apply zB | apply zF | refine zE ?_ GE431.out | refine zE ?_ GE432.out) | exact HB.out))))
   have n2_ := zA (Kd.R_lower ho2 (zL (by repeat (first | (with_reducible first | exact HB.out | apply zC | apply zB | apply zF | refine zE ?_ GE431.out | refine zE ?_ GE432.out) | exact HB.out))))
   have n3_ := zA (Kd.S_lower ho3 (zL (by repeat (first | (with_reducible first | exact HB.out | apply zC | apply zB | apply zF | refine zE ?_ GE431.out | refine zE ?_ GE432.out) | exact HB.out))))
   have n4_ := zA (Kd.R_lower ho4 (zL (by repeat (first | (with_reducible first | exact HB.out | apply zC | apply zB | apply zF | refine zE ?_ GE431.out | refine zE ?_ GE432.out) | exact HB.out))))
   have n5_ := zA (blk_below (g := gb431) (o := .cells #[.int .i64 a0_0, .int .i64 a0_1, .int .i64 a0_2, .int .i64 a0_3, .slice A0_4 l0_4.length c0_4, .slice A0_5 l0_5.length c0_5, .slice A0_6 l0_6.length c0_6, .int .i64 a0_7, .slice A0_8 l0_8.length c0_8, .slice A0_9 l0_9.length c0_9] 32 (0, 0)) (by (with_reducible repeat (first | refine zG ?_ _ | refine zH ?_ | refine zD ?_ _)); exact BK431.out) hb)
   have n6_ := zA (blk_below (g := gb432) (o := .cells #[.int .i64 a1_0, .int .i64 a1_1, .int .i64 a1_2, .int .i64 a1_3, .slice A1_4 l1_4.length c1_4, .slice A1_5 l1_5.length c1_5, .slice A1_6 l1_6.length c1_6, .int .i64 a1_7, .slice A1_8 l1_8.length c1_8, .slice A1_9 l1_9.length c1_9] 32 (0, 0)) (by (with_reducible repeat (first | refine zG ?_ _ | refine zH ?_ | refine zD ?_ _)); exact BK432.out) hb)
   have n7_ := zA (below_step (by repeat (first | (with_reducible first | exact HB.out | apply zC | apply zB | apply zF | refine zE ?_ GE431.out | refine zE ?_ GE432.out) | exact HB.out)) hb)
   clear BK431
   clear BK432
   clear HB
   have HO441 := n0_
   have HO444 := n1_
   have HO447 := n2_
   have HO451 := n3_
   have HO454 := n4_
   have BK431 := n5_
   have BK432 := n6_
   have HB := n7_
   clear n0_ n1_ n2_ n3_ n4_ n5_ n6_ n7_
   (try clear hb)
   (try clear hb2)
   (try clear hk)
   (try clear hi)
   (try clear ho0)
   (try clear ho1)
   (try clear ho2)
   (try clear ho3)
   (try clear ho4)
   refine hK.out _ _ ⟨(zK BK431.out 0).trans rfl, (zK BK431.out 1).trans rfl, (zK BK431.out 2).trans rfl, (zK BK431.out 3).trans rfl, (zK BK431.out 4).trans rfl, (zK BK431.out 5).trans rfl, (zK BK431.out 6).trans rfl, (zK BK431.out 7).trans rfl, (zK BK431.out 8).trans rfl, (zK BK431.out 9).trans rfl, (zK BK432.out 0).trans rfl, (zK BK432.out 1).trans rfl, (zK BK432.out 2).trans rfl, (zK BK432.out 3).trans rfl, (zK BK432.out 4).trans rfl, (zK BK432.out 5).trans rfl, (zK BK432.out 6).trans rfl, (zK BK432.out 7).trans rfl, (zK BK432.out 8).trans rfl, (zK BK432.out 9).trans rfl⟩ (fun hHeld => ?_)
   clear hK K
   refine norm_ (a' := ?_) ?_ ?_
   rotate_left
   ·show Act.put _ (some 21) _ = _
    simp only [Act.put, List.setIfInBounds_toArray, List.set_cons_zero, List.set_cons_succ, i64_w, i32_w]
    rfl
   refine one_ (i := 3) (N := some 23) #[true, true, true, true, false, false] rfl rfl (by kernel_rfl) (by decide) (fun K hK => ?_)
   refine goes_ Tryz.func6 (by kernel_rfl) rfl #[.agg #[.int .i64 a1_0, .int .i64 a1_1, .int .i64 a1_2, .int .i64 a1_3, .slice A1_4 l1_4.length c1_4, .slice A1_5 l1_5.length c1_5, .slice A1_6 l1_6.length c1_6, .int .i64 a1_7, .slice A1_8 l1_8.length c1_8, .slice A1_9 l1_9.length c1_9]] (by rfl) rfl rfl (by (try simp only [zU, zV, zW]); first | done | rfl | (simp only [zR, zQ]; rfl)) ?_
   with_reducible refine (laws_toStream.calls k a1_0 a1_1 a1_2 a1_3 _ _ l1_4 _ _ l1_5 _ _ l1_6 a1_7 _ _ l1_8 _ _ l1_9 t455 t456 t457 t458 t459 t462 t465 t468 t469 t472 _ ?side1 ?side2 ?side3 ?side4 ?side5 ?side6 ?side7 ?side8 ?side9 ?side10 A18.out).mono ?_
   (case side1 => repeat (first | exact (Kd.C_below HR1_4.out HB.out) | (with_reducible refine yH ?_ _) | (with_reducible refine yF ?_ _) | (with_reducible refine yG ?_)))
   (case side2 => exact HC1_4.out)
   (case side3 => repeat (first | exact (Kd.C_below HR1_5.out HB.out) | (with_reducible refine yH ?_ _) | (with_reducible refine yF ?_ _) | (with_reducible refine yG ?_)))
   (case side4 => exact HC1_5.out)
   (case side5 => repeat (first | exact (Kd.C_below HR1_6.out HB.out) | (with_reducible refine yH ?_ _) | (with_reducible refine yF ?_ _) | (with_reducible refine yG ?_)))
   (case side6 => exact HC1_6.out)
   (case side7 => repeat (first | exact (Kd.C_below HR1_8.out HB.out) | (with_reducible refine yH ?_ _) | (with_reducible refine yF ?_ _) | (with_reducible refine yG ?_)))
   (case side8 => exact HC1_8.out)
   (case side9 => repeat (first | exact (Kd.C_below HR1_9.out HB.out) | (with_reducible refine yH ?_ _) | (with_reducible refine yF ?_ _) | (with_reducible refine yG ?_)))
   (case side10 => exact HC1_9.out)
   rintro e w26 ⟨v460, v463, v466, v470, v473, rfl, ho0, ho1, ho2, ho3, ho4, hb⟩
   refine ⟨_, rfl, ?_⟩
   have n0_ := zA (Kd.R_elder' (by (with_reducible repeat (first | apply zN | apply zM | apply zO)); exact HO441.out) (Kd.R_base ho0) hb)
   have n1_ := zA (Kd.S_elder' (by (with_reducible repeat (first | apply zY | apply zZ | apply yA)); exact HO444.out) (Kd.S_base ho1) hb)
   have n2_ := zA (zP (Kd.R_told (Kd.R_told (Kd.R_old (by (with_reducible repeat (first | apply zN | apply zM | apply zO)); exact HO447.out) hb) (Kd.S_base ho1)) (Kd.R_base ho2)) (fun _ h_ => h_.1))
   have n3_ := zA (Kd.S_elder' (by (with_reducible repeat (first | apply zY | apply zZ | apply yA)); exact HO451.out) (Kd.S_base ho3) hb)
   have n4_ := zA (Kd.R_elder' (by (with_reducible repeat (first | apply zN | apply zM | apply zO)); exact HO454.out) (Kd.R_base ho4) hb)
   have n5_ := zA (Kd.R_lower (Kd.R_new' ho0 (Kd.R_lt (by (with_reducible repeat (first | apply zN | apply zM | apply zO)); exact HO441.out))) (zL (by repeat (first | (with_reducible first | exact HB.out | apply zC | apply zB | apply zF | refine zE ?_ GE431.out | refine zE ?_ GE432.out) | exact HB.out))))
   have n6_ := zA (Kd.S_lower (Kd.S_new' ho1 (Kd.S_lt (by (with_reducible repeat (first | apply zY | apply zZ | apply yA)); exact HO444.out))) (zL (by repeat (first | (with_reducible first | exact HB.out | apply zC | apply zB | apply zF | refine zE ?_ GE431.out | refine zE ?_ GE432.out) | exact HB.out))))
   have n7_ := zA (Kd.R_lower (Kd.R_new' (Kd.R_new' ho2 (Kd.S_lt (by (with_reducible repeat (first | apply zY | apply zZ | apply yA)); exact HO444.out))) (Kd.R_lt (by (with_reducible repeat (first | apply zN | apply zM | apply zO)); exact HO447.out))) (zL (by repeat (first | (with_reducible first | exact HB.out | apply zC | apply zB | apply zF | refine zE ?_ GE431.out | refine zE ?_ GE432.out) | exact HB.out))))
   have n8_ := zA (Kd.S_lower (Kd.S_new' ho3 (Kd.S_lt (by (with_reducible repeat (first | apply zY | apply zZ | apply yA)); exact HO451.out))) (zL (by repeat (first | (with_reducible first | exact HB.out | apply zC | apply zB | apply zF | refine zE ?_ GE431.out | refine zE ?_ GE432.out) | exact HB.out))))
   have n9_ := zA (Kd.R_lower (Kd.R_new' ho4 (Kd.R_lt (by (with_reducible repeat (first | apply zN | apply zM | apply zO)); exact HO454.out))) (zL (by repeat (first | (with_reducible first | exact HB.out | apply zC | apply zB | apply zF | refine zE ?_ GE431.out | refine zE ?_ GE432.out) | exact HB.out))))
   have n10_ := zA (blk_below (g := gb431) (o := .cells #[.int .i64 a0_0, .int .i64 a0_1, .int .i64 a0_2, .int .i64 a0_3, .slice A0_4 l0_4.length c0_4, .slice A0_5 l0_5.length c0_5, .slice A0_6 l0_6.length c0_6, .int .i64 a0_7, .slice A0_8 l0_8.length c0_8, .slice A0_9 l0_9.length c0_9] 32 (0, 0)) (by (with_reducible repeat (first | refine zG ?_ _ | refine zH ?_ | refine zD ?_ _)); exact BK431.out) hb)
   have n11_ := zA (blk_below (g := gb432) (o := .cells #[.int .i64 a1_0, .int .i64 a1_1, .int .i64 a1_2, .int .i64 a1_3, .slice A1_4 l1_4.length c1_4, .slice A1_5 l1_5.length c1_5, .slice A1_6 l1_6.length c1_6, .int .i64 a1_7, .slice A1_8 l1_8.length c1_8, .slice A1_9 l1_9.length c1_9] 32 (0, 0)) (by (with_reducible repeat (first | refine zG ?_ _ | refine zH ?_ | refine zD ?_ _)); exact BK432.out) hb)
   have n12_ := zA (below_step (by repeat (first | (with_reducible first | exact HB.out | apply zC | apply zB | apply zF | refine zE ?_ GE431.out | refine zE ?_ GE432.out) | exact HB.out)) hb)
   clear HO441
   clear HO444
   clear HO447
   clear HO451
   clear HO454
   clear BK431
   clear BK432
   clear HB
   have HO441 := n0_
   have HO444 := n1_
   have HO447 := n2_
   have HO451 := n3_
   have HO454 := n4_
   have HO461 := n5_
   have HO464 := n6_
   have HO467 := n7_
   have HO471 := n8_
   have HO474 := n9_
   have BK431 := n10_
   have BK432 := n11_
   have HB := n12_
   clear n0_ n1_ n2_ n3_ n4_ n5_ n6_ n7_ n8_ n9_ n10_ n11_ n12_
   (try clear hb)
   (try clear hb2)
   (try clear hk)
   (try clear hi)
   (try clear ho0)
   (try clear ho1)
   (try clear ho2)
   (try clear ho3)
   (try clear ho4)
   obtain ⟨Ao27, co27, eo27⟩ := Kd.R_slice HO441.out
   (first | subst eo27 | (injection eo27 with f1_ f2_ f3_; have f4_ := f1_.symm; have f5_ := f3_.symm; clear f1_ f2_ f3_; subst f4_; subst f5_))
   obtain ⟨Ao28, co28, eo28⟩ := Kd.S_slice HO444.out
   (first | subst eo28 | (injection eo28 with f1_ f2_ f3_; have f4_ := f1_.symm; have f5_ := f3_.symm; clear f1_ f2_ f3_; subst f4_; subst f5_))
   obtain ⟨Ao29, co29, eo29⟩ := Kd.R_slice HO447.out
   (first | subst eo29 | (injection eo29 with f1_ f2_ f3_; have f4_ := f1_.symm; have f5_ := f3_.symm; clear f1_ f2_ f3_; subst f4_; subst f5_))
   obtain ⟨Ao30, co30, eo30⟩ := Kd.S_slice HO451.out
   (first | subst eo30 | (injection eo30 with f1_ f2_ f3_; have f4_ := f1_.symm; have f5_ := f3_.symm; clear f1_ f2_ f3_; subst f4_; subst f5_))
   obtain ⟨Ao31, co31, eo31⟩ := Kd.R_slice HO454.out
   (first | subst eo31 | (injection eo31 with f1_ f2_ f3_; have f4_ := f1_.symm; have f5_ := f3_.symm; clear f1_ f2_ f3_; subst f4_; subst f5_))
   obtain ⟨Ao32, co32, eo32⟩ := Kd.R_slice HO461.out
   (first | subst eo32 | (injection eo32 with f1_ f2_ f3_; have f4_ := f1_.symm; have f5_ := f3_.symm; clear f1_ f2_ f3_; subst f4_; subst f5_))
   obtain ⟨Ao33, co33, eo33⟩ := Kd.S_slice HO464.out
   (first | subst eo33 | (injection eo33 with f1_ f2_ f3_; have f4_ := f1_.symm; have f5_ := f3_.symm; clear f1_ f2_ f3_; subst f4_; subst f5_))
   obtain ⟨Ao34, co34, eo34⟩ := Kd.R_slice HO467.out
   (first | subst eo34 | (injection eo34 with f1_ f2_ f3_; have f4_ := f1_.symm; have f5_ := f3_.symm; clear f1_ f2_ f3_; subst f4_; subst f5_))
   obtain ⟨Ao35, co35, eo35⟩ := Kd.S_slice HO471.out
   (first | subst eo35 | (injection eo35 with f1_ f2_ f3_; have f4_ := f1_.symm; have f5_ := f3_.symm; clear f1_ f2_ f3_; subst f4_; subst f5_))
   obtain ⟨Ao36, co36, eo36⟩ := Kd.R_slice HO474.out
   (first | subst eo36 | (injection eo36 with f1_ f2_ f3_; have f4_ := f1_.symm; have f5_ := f3_.symm; clear f1_ f2_ f3_; subst f4_; subst f5_))
   refine hK.out _ _ ⟨(zK BK431.out 0).trans rfl, (zK BK431.out 1).trans rfl, (zK BK431.out 2).trans rfl, (zK BK431.out 3).trans rfl, (zK BK431.out 4).trans rfl, (zK BK431.out 5).trans rfl, (zK BK431.out 6).trans rfl, (zK BK431.out 7).trans rfl, (zK BK431.out 8).trans rfl, (zK BK431.out 9).trans rfl, (zK BK432.out 0).trans rfl, (zK BK432.out 1).trans rfl, (zK BK432.out 2).trans rfl, (zK BK432.out 3).trans rfl, (zK BK432.out 4).trans rfl, (zK BK432.out 5).trans rfl, (zK BK432.out 6).trans rfl, (zK BK432.out 7).trans rfl, (zK BK432.out 8).trans rfl, (zK BK432.out 9).trans rfl⟩ (fun hHeld => ?_)
   clear hK K
   refine norm_ (a' := ?_) ?_ ?_
   rotate_left
   ·show Act.put _ (some 23) _ = _
    simp only [Act.put, List.setIfInBounds_toArray, List.set_cons_zero, List.set_cons_succ, i64_w, i32_w]
    rfl
   refine one_ (i := 4) (N := some 24) #[true, true, true, true, true, false] rfl rfl (by kernel_rfl) (by decide) (fun K hK => ?_)
   refine goes_ Tryz.func5 (by kernel_rfl) rfl #[.agg #[.int .i64 t435, .int .i64 t436, .int .i64 t437, .int .i64 t438, .slice Ao27 t439.length co27, .slice Ao28 t442.length co28, .slice Ao29 t445.length co29, .int .i64 t448, .slice Ao30 t449.length co30, .slice Ao31 t452.length co31], .agg #[.int .i64 t455, .int .i64 t456, .int .i64 t457, .int .i64 t458, .slice Ao32 t459.length co32, .slice Ao33 t462.length co33, .slice Ao34 t465.length co34, .int .i64 t468, .slice Ao35 t469.length co35, .slice Ao36 t472.length co36]] (by rfl) rfl rfl (by (try simp only [zU, zV, zW]); first | done | rfl | (simp only [zR, zQ]; rfl)) ?_
   with_reducible refine (spec_SameStream.calls k t435 t436 t437 t438 _ _ t439 _ _ t442 _ _ t445 t448 _ _ t449 _ _ t452 t455 t456 t457 t458 _ _ t459 _ _ t462 _ _ t465 t468 _ _ t469 _ _ t472 t475 _ ?side1 ?side2 ?side3 ?side4 ?side5 ?side6 ?side7 ?side8 ?side9 ?side10 ?side11 ?side12 ?side13 ?side14 ?side15 ?side16 ?side17 ?side18 ?side19 ?side20 A19.out).mono ?_
   (case side1 => repeat (first | exact (yE HO441.out).2.2 | (with_reducible refine yH ?_ _) | (with_reducible refine yF ?_ _) | (with_reducible refine yG ?_)))
   (case side2 => exact (yE HO441.out).2.1)
   (case side3 => repeat (first | exact (Kd.S_reads' HO444.out).2.2 | (with_reducible refine yH ?_ _) | (with_reducible refine yF ?_ _) | (with_reducible refine yG ?_)))
   (case side4 => exact (Kd.S_reads' HO444.out).2.1)
   (case side5 => repeat (first | exact (yE HO447.out).2.2 | (with_reducible refine yH ?_ _) | (with_reducible refine yF ?_ _) | (with_reducible refine yG ?_)))
   (case side6 => exact (yE HO447.out).2.1)
   (case side7 => repeat (first | exact (Kd.S_reads' HO451.out).2.2 | (with_reducible refine yH ?_ _) | (with_reducible refine yF ?_ _) | (with_reducible refine yG ?_)))
   (case side8 => exact (Kd.S_reads' HO451.out).2.1)
   (case side9 => repeat (first | exact (yE HO454.out).2.2 | (with_reducible refine yH ?_ _) | (with_reducible refine yF ?_ _) | (with_reducible refine yG ?_)))
   (case side10 => exact (yE HO454.out).2.1)
   (case side11 => repeat (first | exact (yE HO461.out).2.2 | (with_reducible refine yH ?_ _) | (with_reducible refine yF ?_ _) | (with_reducible refine yG ?_)))
   (case side12 => exact (yE HO461.out).2.1)
   (case side13 => repeat (first | exact (Kd.S_reads' HO464.out).2.2 | (with_reducible refine yH ?_ _) | (with_reducible refine yF ?_ _) | (with_reducible refine yG ?_)))
   (case side14 => exact (Kd.S_reads' HO464.out).2.1)
   (case side15 => repeat (first | exact (yE HO467.out).2.2 | (with_reducible refine yH ?_ _) | (with_reducible refine yF ?_ _) | (with_reducible refine yG ?_)))
   (case side16 => exact (yE HO467.out).2.1)
   (case side17 => repeat (first | exact (Kd.S_reads' HO471.out).2.2 | (with_reducible refine yH ?_ _) | (with_reducible refine yF ?_ _) | (with_reducible refine yG ?_)))
   (case side18 => exact (Kd.S_reads' HO471.out).2.1)
   (case side19 => repeat (first | exact (yE HO474.out).2.2 | (with_reducible refine yH ?_ _) | (with_reducible refine yF ?_ _) | (with_reducible refine yG ?_)))
   (case side20 => exact (yE HO474.out).2.1)
   rintro e w37 ⟨rfl, hb⟩
   refine ⟨_, rfl, ?_⟩
   have n0_ := zA (Kd.R_below (by (with_reducible repeat (first | apply zN | apply zM | apply zO)); exact HO441.out) hb)
   have n1_ := zA (Kd.S_below (by (with_reducible repeat (first | apply zY | apply zZ | apply yA)); exact HO444.out) hb)
   have n2_ := zA (Kd.R_below (by (with_reducible repeat (first | apply zN | apply zM | apply zO)); exact HO447.out) hb)
   have n3_ := zA (Kd.S_below (by (with_reducible repeat (first | apply zY | apply zZ | apply yA)); exact HO451.out) hb)
   have n4_ := zA (Kd.R_below (by (with_reducible repeat (first | apply zN | apply zM | apply zO)); exact HO454.out) hb)
   have n5_ := zA (Kd.R_below (by (with_reducible repeat (first | apply zN | apply zM | apply zO)); exact HO461.out) hb)
   have n6_ := zA (Kd.S_below (by (with_reducible repeat (first | apply zY | apply zZ | apply yA)); exact HO464.out) hb)
   have n7_ := zA (Kd.R_below (by (with_reducible repeat (first | apply zN | apply zM | apply zO)); exact HO467.out) hb)
   have n8_ := zA (Kd.S_below (by (with_reducible repeat (first | apply zY | apply zZ | apply yA)); exact HO471.out) hb)
   have n9_ := zA (Kd.R_below (by (with_reducible repeat (first | apply zN | apply zM | apply zO)); exact HO474.out) hb)
   have n10_ := zA (blk_below (g := gb431) (o := .cells #[.int .i64 a0_0, .int .i64 a0_1, .int .i64 a0_2, .int .i64 a0_3, .slice A0_4 l0_4.length c0_4, .slice A0_5 l0_5.length c0_5, .slice A0_6 l0_6.length c0_6, .int .i64 a0_7, .slice A0_8 l0_8.length c0_8, .slice A0_9 l0_9.length c0_9] 32 (0, 0)) (by (with_reducible repeat (first | refine zG ?_ _ | refine zH ?_ | refine zD ?_ _)); exact BK431.out) hb)
   have n11_ := zA (blk_below (g := gb432) (o := .cells #[.int .i64 a1_0, .int .i64 a1_1, .int .i64 a1_2, .int .i64 a1_3, .slice A1_4 l1_4.length c1_4, .slice A1_5 l1_5.length c1_5, .slice A1_6 l1_6.length c1_6, .int .i64 a1_7, .slice A1_8 l1_8.length c1_8, .slice A1_9 l1_9.length c1_9] 32 (0, 0)) (by (with_reducible repeat (first | refine zG ?_ _ | refine zH ?_ | refine zD ?_ _)); exact BK432.out) hb)
   have n12_ := zA (below_step (by repeat (first | (with_reducible first | exact HB.out | apply zC | apply zB | apply zF | refine zE ?_ GE431.out | refine zE ?_ GE432.out) | exact HB.out)) hb)
   clear HO441
   clear HO444
   clear HO447
   clear HO451
   clear HO454
   clear HO461
   clear HO464
   clear HO467
   clear HO471
   clear HO474
   clear BK431
   clear BK432
   clear HB
   have HO441 := n0_
   have HO444 := n1_
   have HO447 := n2_
   have HO451 := n3_
   have HO454 := n4_
   have HO461 := n5_
   have HO464 := n6_
   have HO467 := n7_
   have HO471 := n8_
   have HO474 := n9_
   have BK431 := n10_
   have BK432 := n11_
   have HB := n12_
   clear n0_ n1_ n2_ n3_ n4_ n5_ n6_ n7_ n8_ n9_ n10_ n11_ n12_
   (try clear hb)
   (try clear hb2)
   (try clear hk)
   (try clear hi)
   refine hK.out _ _ ⟨(zK BK431.out 0).trans rfl, (zK BK431.out 1).trans rfl, (zK BK431.out 2).trans rfl, (zK BK431.out 3).trans rfl, (zK BK431.out 4).trans rfl, (zK BK431.out 5).trans rfl, (zK BK431.out 6).trans rfl, (zK BK431.out 7).trans rfl, (zK BK431.out 8).trans rfl, (zK BK431.out 9).trans rfl, (zK BK432.out 0).trans rfl, (zK BK432.out 1).trans rfl, (zK BK432.out 2).trans rfl, (zK BK432.out 3).trans rfl, (zK BK432.out 4).trans rfl, (zK BK432.out 5).trans rfl, (zK BK432.out 6).trans rfl, (zK BK432.out 7).trans rfl, (zK BK432.out 8).trans rfl, (zK BK432.out 9).trans rfl⟩ (fun hHeld => ?_)
   clear hK K
   refine norm_ (a' := ?_) ?_ ?_
   rotate_left
   ·show Act.put _ (some 24) _ = _
    simp only [Act.put, List.setIfInBounds_toArray, List.set_cons_zero, List.set_cons_succ, i64_w, i32_w]
    rfl
   refine pure_ (i := 5) (N := some 6) (v := ?_) (a' := ?_) #[true, true, true, true, true, true] rfl rfl (by kernel_rfl) (fun _ _ _ h => h) (Or.inl ⟨by rfl, ?_⟩) ?_ ?_
   rotate_left
   ·intro w'
    go_simp
    with_reducible rfl
   rotate_left
   ·simp only [Act.put, List.setIfInBounds_toArray, List.set_cons_zero, List.set_cons_succ, i64_w, i32_w]
    rfl
   refine done_ (by kernel_rfl) ?_
   have hnb38 := NB431_432.out
   have hnc38 := NB432_431.out
   have hcz39_0 : w37.cell? ⟨gb431, 0, none⟩ = some (.int .i64 a0_0) := (zK BK431.out 0).trans rfl
   have hcz39_1 : w37.cell? ⟨gb431, 1, none⟩ = some (.int .i64 a0_1) := (zK BK431.out 1).trans rfl
   have hcz39_2 : w37.cell? ⟨gb431, 2, none⟩ = some (.int .i64 a0_2) := (zK BK431.out 2).trans rfl
   have hcz39_3 : w37.cell? ⟨gb431, 3, none⟩ = some (.int .i64 a0_3) := (zK BK431.out 3).trans rfl
   have hcz39_4 : w37.cell? ⟨gb431, 4, none⟩ = some (.slice A0_4 l0_4.length c0_4) := (zK BK431.out 4).trans rfl
   have hcz39_5 : w37.cell? ⟨gb431, 5, none⟩ = some (.slice A0_5 l0_5.length c0_5) := (zK BK431.out 5).trans rfl
   have hcz39_6 : w37.cell? ⟨gb431, 6, none⟩ = some (.slice A0_6 l0_6.length c0_6) := (zK BK431.out 6).trans rfl
   have hcz39_7 : w37.cell? ⟨gb431, 7, none⟩ = some (.int .i64 a0_7) := (zK BK431.out 7).trans rfl
   have hcz39_8 : w37.cell? ⟨gb431, 8, none⟩ = some (.slice A0_8 l0_8.length c0_8) := (zK BK431.out 8).trans rfl
   have hcz39_9 : w37.cell? ⟨gb431, 9, none⟩ = some (.slice A0_9 l0_9.length c0_9) := (zK BK431.out 9).trans rfl
   have hfz39_0 := zJ BK431.out 0
   have hfz39_1 := zJ BK431.out 1
   have hfz39_2 := zJ BK431.out 2
   have hfz39_3 := zJ BK431.out 3
   have hfz39_4 := zJ BK431.out 4
   have hfz39_5 := zJ BK431.out 5
   have hfz39_6 := zJ BK431.out 6
   have hfz39_7 := zJ BK431.out 7
   have hfz39_8 := zJ BK431.out 8
   have hfz39_9 := zJ BK431.out 9
   go_upto_if 34 with (first | ((with_reducible refine gate_callee (f := 6) rfl ?_); refine goesL_ (some 26) rfl rfl Tryz.func6 (by kernel_rfl) rfl #[.agg #[.int .i64 a0_0, .int .i64 a0_1, .int .i64 a0_2, .int .i64 a0_3, .slice A0_4 l0_4.length c0_4, .slice A0_5 l0_5.length c0_5, .slice A0_6 l0_6.length c0_6, .int .i64 a0_7, .slice A0_8 l0_8.length c0_8, .slice A0_9 l0_9.length c0_9]] rfl (by (try simp only [zU, zV, zW]); first | done | rfl | (simp only [zR, zQ]; rfl)) ?_; (with_reducible refine (laws_toStream.calls k a0_0 a0_1 a0_2 a0_3 _ _ l0_4 _ _ l0_5 _ _ l0_6 a0_7 _ _ l0_8 _ _ l0_9 t476 t477 t478 t479 t480 t483 t486 t489 t490 t493 _ ?side1 ?side2 ?side3 ?side4 ?side5 ?side6 ?side7 ?side8 ?side9 ?side10 A20.out).mono ?_); (case side1 => repeat (first | exact (Kd.C_below HR0_4.out HB.out) | (with_reducible refine yH ?_ _) | (with_reducible refine yF ?_ _) | (with_reducible refine yG ?_))); (case side2 => exact HC0_4.out); (case side3 => repeat (first | exact (Kd.C_below HR0_5.out HB.out) | (with_reducible refine yH ?_ _) | (with_reducible refine yF ?_ _) | (with_reducible refine yG ?_))); (case side4 => exact HC0_5.out); (case side5 => repeat (first | exact (Kd.C_below HR0_6.out HB.out) | (with_reducible refine yH ?_ _) | (with_reducible refine yF ?_ _) | (with_reducible refine yG ?_))); (case side6 => exact HC0_6.out); (case side7 => repeat (first | exact (Kd.C_below HR0_8.out HB.out) | (with_reducible refine yH ?_ _) | (with_reducible refine yF ?_ _) | (with_reducible refine yG ?_))); (case side8 => exact HC0_8.out); (case side9 => repeat (first | exact (Kd.C_below HR0_9.out HB.out) | (with_reducible refine yH ?_ _) | (with_reducible refine yF ?_ _) | (with_reducible refine yG ?_))); (case side10 => exact HC0_9.out); rintro e w40 ⟨v481, v484, v487, v491, v494, rfl, ho0, ho1, ho2, ho3, ho4, hb⟩; refine ⟨_, rfl, ?_⟩; have n0_ := zA (Kd.R_elder' (by (with_reducible repeat (first | apply zN | apply zM | apply zO)); exact HO441.out) (Kd.R_base ho0) hb); have n1_ := zA (Kd.S_elder' (by (with_reducible repeat (first | apply zY | apply zZ | apply yA)); exact HO444.out) (Kd.S_base ho1) hb); have n2_ := zA (zP (Kd.R_told (Kd.R_told (Kd.R_old (by (with_reducible repeat (first | apply zN | apply zM | apply zO)); exact HO447.out) hb) (Kd.S_base ho1)) (Kd.R_base ho2)) (fun _ h_ => h_.1)); have n3_ := zA (Kd.S_elder' (by (with_reducible repeat (first | apply zY | apply zZ | apply yA)); exact HO451.out) (Kd.S_base ho3) hb); have n4_ := zA (Kd.R_elder' (by (with_reducible repeat (first | apply zN | apply zM | apply zO)); exact HO454.out) (Kd.R_base ho4) hb); have n5_ := zA (Kd.R_elder' (by (with_reducible repeat (first | apply zN | apply zM | apply zO)); exact HO461.out) (Kd.R_base ho0) hb); have n6_ := zA (Kd.S_elder' (by (with_reducible repeat (first | apply zY | apply zZ | apply yA)); exact HO464.out) (Kd.S_base ho1) hb); have n7_ := zA (zP (Kd.R_told (Kd.R_told (Kd.R_old (by (with_reducible repeat (first | apply zN | apply zM | apply zO)); exact HO467.out) hb) (Kd.S_base ho1)) (Kd.R_base ho2)) (fun _ h_ => h_.1)); have n8_ := zA (Kd.S_elder' (by (with_reducible repeat (first | apply zY | apply zZ | apply yA)); exact HO471.out) (Kd.S_base ho3) hb); have n9_ := zA (Kd.R_elder' (by (with_reducible repeat (first | apply zN | apply zM | apply zO)); exact HO474.out) (Kd.R_base ho4) hb); have n10_ := zA (Kd.R_lower (Kd.R_new' (Kd.R_new' ho0 (Kd.R_lt (by (with_reducible repeat (first | apply zN | apply zM | apply zO)); exact HO441.out))) (Kd.R_lt (by (with_reducible repeat (first | apply zN | apply zM | apply zO)); exact HO461.out))) (zL (by repeat (first | (with_reducible first | exact HB.out | apply zC | apply zB | apply zF | refine zE ?_ GE431.out | refine zE ?_ GE432.out) | exact HB.out)))); have n11_ := zA (Kd.S_lower (Kd.S_new' (Kd.S_new' ho1 (Kd.S_lt (by (with_reducible repeat (first | apply zY | apply zZ | apply yA)); exact HO444.out))) (Kd.S_lt (by (with_reducible repeat (first | apply zY | apply zZ | apply yA)); exact HO464.out))) (zL (by repeat (first | (with_reducible first | exact HB.out | apply zC | apply zB | apply zF | refine zE ?_ GE431.out | refine zE ?_ GE432.out) | exact HB.out)))); have n12_ := zA (Kd.R_lower (Kd.R_new' (Kd.R_new' (Kd.R_new' (Kd.R_new' ho2 (Kd.S_lt (by (with_reducible repeat (first | apply zY | apply zZ | apply yA)); exact HO444.out))) (Kd.R_lt (by (with_reducible repeat (first | apply zN | apply zM | apply zO)); exact HO447.out))) (Kd.S_lt (by (with_reducible repeat (first | apply zY | apply zZ | apply yA)); exact HO464.out))) (Kd.R_lt (by (with_reducible repeat (first | apply zN | apply zM | apply zO)); exact HO467.out))) (zL (by repeat (first | (with_reducible first | exact HB.out | apply zC | apply zB | apply zF | refine zE ?_ GE431.out | refine zE ?_ GE432.out) | exact HB.out)))); have n13_ := zA (Kd.S_lower (Kd.S_new' (Kd.S_new' ho3 (Kd.S_lt (by (with_reducible repeat (first | apply zY | apply zZ | apply yA)); exact HO451.out))) (Kd.S_lt (by (with_reducible repeat (first | apply zY | apply zZ | apply yA)); exact HO471.out))) (zL (by repeat (first | (with_reducible first | exact HB.out | apply zC | apply zB | apply zF | refine zE ?_ GE431.out | refine zE ?_ GE432.out) | exact HB.out)))); have n14_ := zA (Kd.R_lower (Kd.R_new' (Kd.R_new' ho4 (Kd.R_lt (by (with_reducible repeat (first | apply zN | apply zM | apply zO)); exact HO454.out))) (Kd.R_lt (by (with_reducible repeat (first | apply zN | apply zM | apply zO)); exact HO474.out))) (zL (by repeat (first | (with_reducible first | exact HB.out | apply zC | apply zB | apply zF | refine zE ?_ GE431.out | refine zE ?_ GE432.out) | exact HB.out)))); have n15_ := zA (blk_below (g := gb431) (o := .cells #[.int .i64 a0_0, .int .i64 a0_1, .int .i64 a0_2, .int .i64 a0_3, .slice A0_4 l0_4.length c0_4, .slice A0_5 l0_5.length c0_5, .slice A0_6 l0_6.length c0_6, .int .i64 a0_7, .slice A0_8 l0_8.length c0_8, .slice A0_9 l0_9.length c0_9] 32 (0, 0)) (by (with_reducible repeat (first | refine zG ?_ _ | refine zH ?_ | refine zD ?_ _)); exact BK431.out) hb); have n16_ := zA (blk_below (g := gb432) (o := .cells #[.int .i64 a1_0, .int .i64 a1_1, .int .i64 a1_2, .int .i64 a1_3, .slice A1_4 l1_4.length c1_4, .slice A1_5 l1_5.length c1_5, .slice A1_6 l1_6.length c1_6, .int .i64 a1_7, .slice A1_8 l1_8.length c1_8, .slice A1_9 l1_9.length c1_9] 32 (0, 0)) (by (with_reducible repeat (first | refine zG ?_ _ | refine zH ?_ | refine zD ?_ _)); exact BK432.out) hb); have n17_ := zA (below_step (by repeat (first | (with_reducible first | exact HB.out | apply zC | apply zB | apply zF | refine zE ?_ GE431.out | refine zE ?_ GE432.out) | exact HB.out)) hb); clear HO441; clear HO444; clear HO447; clear HO451; clear HO454; clear HO461; clear HO464; clear HO467; clear HO471; clear HO474; clear BK431; clear BK432; clear HB; have HO441 := n0_; have HO444 := n1_; have HO447 := n2_; have HO451 := n3_; have HO454 := n4_; have HO461 := n5_; have HO464 := n6_; have HO467 := n7_; have HO471 := n8_; have HO474 := n9_; have HO482 := n10_; have HO485 := n11_; have HO488 := n12_; have HO492 := n13_; have HO495 := n14_; have BK431 := n15_; have BK432 := n16_; have HB := n17_; clear n0_ n1_ n2_ n3_ n4_ n5_ n6_ n7_ n8_ n9_ n10_ n11_ n12_ n13_ n14_ n15_ n16_ n17_; (try clear hb); (try clear hb2); (try clear hk); (try clear hi); (try clear ho0); (try clear ho1); (try clear ho2); (try clear ho3); (try clear ho4)) | ((with_reducible refine gate_dst (N := 7) rfl ?_); refine box_event ?hg (N := 7) ?hd (cs := #[.int .i64 0, .int .i64 0, .int .i64 0, .int .i64 0, .slice none 0 0, .slice none 0 0, .slice none 0 0, .int .i64 0, .slice none 0 0, .slice none 0 0]) (t := 41) ?hr ?_; (case hd => rfl); (case hg => rfl); (case hr => first | (go_simp; done) | (go_simp; rfl)); intro gb496 hg w41 hbox hb; have n0_ := zA (Kd.R_below (by (with_reducible repeat (first | apply zN | apply zM | apply zO)); exact HO441.out) hb); have n1_ := zA (Kd.S_below (by (with_reducible repeat (first | apply zY | apply zZ | apply yA)); exact HO444.out) hb); have n2_ := zA (Kd.R_below (by (with_reducible repeat (first | apply zN | apply zM | apply zO)); exact HO447.out) hb); have n3_ := zA (Kd.S_below (by (with_reducible repeat (first | apply zY | apply zZ | apply yA)); exact HO451.out) hb); have n4_ := zA (Kd.R_below (by (with_reducible repeat (first | apply zN | apply zM | apply zO)); exact HO454.out) hb); have n5_ := zA (Kd.R_below (by (with_reducible repeat (first | apply zN | apply zM | apply zO)); exact HO461.out) hb); have n6_ := zA (Kd.S_below (by (with_reducible repeat (first | apply zY | apply zZ | apply yA)); exact HO464.out) hb); have n7_ := zA (Kd.R_below (by (with_reducible repeat (first | apply zN | apply zM | apply zO)); exact HO467.out) hb); have n8_ := zA (Kd.S_below (by (with_reducible repeat (first | apply zY | apply zZ | apply yA)); exact HO471.out) hb); have n9_ := zA (Kd.R_below (by (with_reducible repeat (first | apply zN | apply zM | apply zO)); exact HO474.out) hb); have n10_ := zA (Kd.R_below (by (with_reducible repeat (first | apply zN | apply zM | apply zO)); exact HO482.out) hb); have n11_ := zA (Kd.S_below (by (with_reducible repeat (first | apply zY | apply zZ | apply yA)); exact HO485.out) hb); have n12_ := zA (Kd.R_below (by (with_reducible repeat (first | apply zN | apply zM | apply zO)); exact HO488.out) hb); have n13_ := zA (Kd.S_below (by (with_reducible repeat (first | apply zY | apply zZ | apply yA)); exact HO492.out) hb); have n14_ := zA (Kd.R_below (by (with_reducible repeat (first | apply zN | apply zM | apply zO)); exact HO495.out) hb); have n15_ := zA (blk_below (g := gb431) (o := .cells #[.int .i64 a0_0, .int .i64 a0_1, .int .i64 a0_2, .int .i64 a0_3, .slice A0_4 l0_4.length c0_4, .slice A0_5 l0_5.length c0_5, .slice A0_6 l0_6.length c0_6, .int .i64 a0_7, .slice A0_8 l0_8.length c0_8, .slice A0_9 l0_9.length c0_9] 32 (0, 0)) (by (with_reducible repeat (first | refine zG ?_ _ | refine zH ?_ | refine zD ?_ _)); exact BK431.out) hb); have n16_ := zA (blk_below (g := gb432) (o := .cells #[.int .i64 a1_0, .int .i64 a1_1, .int .i64 a1_2, .int .i64 a1_3, .slice A1_4 l1_4.length c1_4, .slice A1_5 l1_5.length c1_5, .slice A1_6 l1_6.length c1_6, .int .i64 a1_7, .slice A1_8 l1_8.length c1_8, .slice A1_9 l1_9.length c1_9] 32 (0, 0)) (by (with_reducible repeat (first | refine zG ?_ _ | refine zH ?_ | refine zD ?_ _)); exact BK432.out) hb); have n17_ := zA (below_step (by repeat (first | (with_reducible first | exact HB.out | apply zC | apply zB | apply zF | refine zE ?_ GE431.out | refine zE ?_ GE432.out) | exact HB.out)) hb); have n18_ := zA (hbox); have n19_ := zA ((by rw [hg]; exact (zL (by repeat (first | (with_reducible first | exact HB.out | apply zC | apply zB | apply zF | refine zE ?_ GE431.out | refine zE ?_ GE432.out) | exact HB.out))) : w.heap.size ≤ gb496)); have n20_ := zA ((by rw [hg]; exact (zL (by repeat (first | (with_reducible first | exact HB.out | apply zC | apply zB | apply zF | refine zE ?_ GE431.out | refine zE ?_ GE432.out) | exact HB.out))) : w.heap.size ≤ gb496)); have n21_ := zA ((by rw [hg]; exact Nat.ne_of_lt (blk_lt (g := gb431) (o := .cells #[.int .i64 a0_0, .int .i64 a0_1, .int .i64 a0_2, .int .i64 a0_3, .slice A0_4 l0_4.length c0_4, .slice A0_5 l0_5.length c0_5, .slice A0_6 l0_6.length c0_6, .int .i64 a0_7, .slice A0_8 l0_8.length c0_8, .slice A0_9 l0_9.length c0_9] 32 (0, 0)) (by (with_reducible repeat (first | refine zG ?_ _ | refine zH ?_ | refine zD ?_ _)); exact BK431.out)) : gb431 ≠ gb496)); have n22_ := zA ((by rw [hg]; exact Nat.ne_of_gt (blk_lt (g := gb431) (o := .cells #[.int .i64 a0_0, .int .i64 a0_1, .int .i64 a0_2, .int .i64 a0_3, .slice A0_4 l0_4.length c0_4, .slice A0_5 l0_5.length c0_5, .slice A0_6 l0_6.length c0_6, .int .i64 a0_7, .slice A0_8 l0_8.length c0_8, .slice A0_9 l0_9.length c0_9] 32 (0, 0)) (by (with_reducible repeat (first | refine zG ?_ _ | refine zH ?_ | refine zD ?_ _)); exact BK431.out)) : gb496 ≠ gb431)); have n23_ := zA ((by rw [hg]; exact Nat.ne_of_lt (blk_lt (g := gb432) (o := .cells #[.int .i64 a1_0, .int .i64 a1_1, .int .i64 a1_2, .int .i64 a1_3, .slice A1_4 l1_4.length c1_4, .slice A1_5 l1_5.length c1_5, .slice A1_6 l1_6.length c1_6, .int .i64 a1_7, .slice A1_8 l1_8.length c1_8, .slice A1_9 l1_9.length c1_9] 32 (0, 0)) (by (with_reducible repeat (first | refine zG ?_ _ | refine zH ?_ | refine zD ?_ _)); exact BK432.out)) : gb432 ≠ gb496)); have n24_ := zA ((by rw [hg]; exact Nat.ne_of_gt (blk_lt (g := gb432) (o := .cells #[.int .i64 a1_0, .int .i64 a1_1, .int .i64 a1_2, .int .i64 a1_3, .slice A1_4 l1_4.length c1_4, .slice A1_5 l1_5.length c1_5, .slice A1_6 l1_6.length c1_6, .int .i64 a1_7, .slice A1_8 l1_8.length c1_8, .slice A1_9 l1_9.length c1_9] 32 (0, 0)) (by (with_reducible repeat (first | refine zG ?_ _ | refine zH ?_ | refine zD ?_ _)); exact BK432.out)) : gb496 ≠ gb432)); clear HO441; clear HO444; clear HO447; clear HO451; clear HO454; clear HO461; clear HO464; clear HO467; clear HO471; clear HO474; clear HO482; clear HO485; clear HO488; clear HO492; clear HO495; clear BK431; clear BK432; clear HB; have HO441 := n0_; have HO444 := n1_; have HO447 := n2_; have HO451 := n3_; have HO454 := n4_; have HO461 := n5_; have HO464 := n6_; have HO467 := n7_; have HO471 := n8_; have HO474 := n9_; have HO482 := n10_; have HO485 := n11_; have HO488 := n12_; have HO492 := n13_; have HO495 := n14_; have BK431 := n15_; have BK432 := n16_; have HB := n17_; have BK496 := n18_; have GW496 := n19_; have GE496 := n20_; have NB431_496 := n21_; have NB496_431 := n22_; have NB432_496 := n23_; have NB496_432 := n24_; clear n0_ n1_ n2_ n3_ n4_ n5_ n6_ n7_ n8_ n9_ n10_ n11_ n12_ n13_ n14_ n15_ n16_ n17_ n18_ n19_ n20_ n21_ n22_ n23_ n24_; clear hb hbox hg; have hnb42 := NB496_431.out; have hnc42 := NB431_496.out; have hnb43 := NB496_432.out; have hnc43 := NB432_496.out; have hcz44_0 : w41.cell? ⟨gb496, 0, none⟩ = some (.int .i64 0) := (zK BK496.out 0).trans rfl; have hcz44_1 : w41.cell? ⟨gb496, 1, none⟩ = some (.int .i64 0) := (zK BK496.out 1).trans rfl; have hcz44_2 : w41.cell? ⟨gb496, 2, none⟩ = some (.int .i64 0) := (zK BK496.out 2).trans rfl; have hcz44_3 : w41.cell? ⟨gb496, 3, none⟩ = some (.int .i64 0) := (zK BK496.out 3).trans rfl; have hcz44_4 : w41.cell? ⟨gb496, 4, none⟩ = some (.slice none 0 0) := (zK BK496.out 4).trans rfl; have hcz44_5 : w41.cell? ⟨gb496, 5, none⟩ = some (.slice none 0 0) := (zK BK496.out 5).trans rfl; have hcz44_6 : w41.cell? ⟨gb496, 6, none⟩ = some (.slice none 0 0) := (zK BK496.out 6).trans rfl; have hcz44_7 : w41.cell? ⟨gb496, 7, none⟩ = some (.int .i64 0) := (zK BK496.out 7).trans rfl; have hcz44_8 : w41.cell? ⟨gb496, 8, none⟩ = some (.slice none 0 0) := (zK BK496.out 8).trans rfl; have hcz44_9 : w41.cell? ⟨gb496, 9, none⟩ = some (.slice none 0 0) := (zK BK496.out 9).trans rfl; have hfz44_0 := zJ BK496.out 0; have hfz44_1 := zJ BK496.out 1; have hfz44_2 := zJ BK496.out 2; have hfz44_3 := zJ BK496.out 3; have hfz44_4 := zJ BK496.out 4; have hfz44_5 := zJ BK496.out 5; have hfz44_6 := zJ BK496.out 6; have hfz44_7 := zJ BK496.out 7; have hfz44_8 := zJ BK496.out 8; have hfz44_9 := zJ BK496.out 9; obtain ⟨Ao45, co45, eo45⟩ := Kd.R_slice HO482.out; subst eo45; obtain ⟨Ao46, co46, eo46⟩ := Kd.S_slice HO485.out; subst eo46; obtain ⟨Ao47, co47, eo47⟩ := Kd.R_slice HO488.out; subst eo47; obtain ⟨Ao48, co48, eo48⟩ := Kd.S_slice HO492.out; subst eo48; obtain ⟨Ao49, co49, eo49⟩ := Kd.R_slice HO495.out; subst eo49; have hcz50_0 : w41.cell? ⟨gb432, 0, none⟩ = some (.int .i64 a1_0) := (zK BK432.out 0).trans rfl; have hcz50_1 : w41.cell? ⟨gb432, 1, none⟩ = some (.int .i64 a1_1) := (zK BK432.out 1).trans rfl; have hcz50_2 : w41.cell? ⟨gb432, 2, none⟩ = some (.int .i64 a1_2) := (zK BK432.out 2).trans rfl; have hcz50_3 : w41.cell? ⟨gb432, 3, none⟩ = some (.int .i64 a1_3) := (zK BK432.out 3).trans rfl; have hcz50_4 : w41.cell? ⟨gb432, 4, none⟩ = some (.slice A1_4 l1_4.length c1_4) := (zK BK432.out 4).trans rfl; have hcz50_5 : w41.cell? ⟨gb432, 5, none⟩ = some (.slice A1_5 l1_5.length c1_5) := (zK BK432.out 5).trans rfl; have hcz50_6 : w41.cell? ⟨gb432, 6, none⟩ = some (.slice A1_6 l1_6.length c1_6) := (zK BK432.out 6).trans rfl; have hcz50_7 : w41.cell? ⟨gb432, 7, none⟩ = some (.int .i64 a1_7) := (zK BK432.out 7).trans rfl; have hcz50_8 : w41.cell? ⟨gb432, 8, none⟩ = some (.slice A1_8 l1_8.length c1_8) := (zK BK432.out 8).trans rfl; have hcz50_9 : w41.cell? ⟨gb432, 9, none⟩ = some (.slice A1_9 l1_9.length c1_9) := (zK BK432.out 9).trans rfl; have hfz50_0 := zJ BK432.out 0; have hfz50_1 := zJ BK432.out 1; have hfz50_2 := zJ BK432.out 2; have hfz50_3 := zJ BK432.out 3; have hfz50_4 := zJ BK432.out 4; have hfz50_5 := zJ BK432.out 5; have hfz50_6 := zJ BK432.out 6; have hfz50_7 := zJ BK432.out 7; have hfz50_8 := zJ BK432.out 8; have hfz50_9 := zJ BK432.out 9) | ((with_reducible refine gate_callee (f := 6) rfl ?_); refine goesL_ (some 28) rfl rfl Tryz.func6 (by kernel_rfl) rfl #[.agg #[.int .i64 a1_0, .int .i64 a1_1, .int .i64 a1_2, .int .i64 a1_3, .slice A1_4 l1_4.length c1_4, .slice A1_5 l1_5.length c1_5, .slice A1_6 l1_6.length c1_6, .int .i64 a1_7, .slice A1_8 l1_8.length c1_8, .slice A1_9 l1_9.length c1_9]] rfl (by (try simp only [zU, zV, zW]); first | done | rfl | (simp only [zR, zQ]; rfl)) ?_; (with_reducible refine (laws_toStream.calls k a1_0 a1_1 a1_2 a1_3 _ _ l1_4 _ _ l1_5 _ _ l1_6 a1_7 _ _ l1_8 _ _ l1_9 t497 t498 t499 t500 t501 t504 t507 t510 t511 t514 _ ?side1 ?side2 ?side3 ?side4 ?side5 ?side6 ?side7 ?side8 ?side9 ?side10 A21.out).mono ?_); (case side1 => exact Kd.C_below HR1_4.out (by repeat (first | (with_reducible first | exact HB.out | apply zC | apply zB | apply zF | refine zE ?_ GE431.out | refine zE ?_ GE432.out | refine zE ?_ GE496.out) | exact HB.out))); (case side2 => exact HC1_4.out); (case side3 => exact Kd.C_below HR1_5.out (by repeat (first | (with_reducible first | exact HB.out | apply zC | apply zB | apply zF | refine zE ?_ GE431.out | refine zE ?_ GE432.out | refine zE ?_ GE496.out) | exact HB.out))); (case side4 => exact HC1_5.out); (case side5 => exact Kd.C_below HR1_6.out (by repeat (first | (with_reducible first | exact HB.out | apply zC | apply zB | apply zF | refine zE ?_ GE431.out | refine zE ?_ GE432.out | refine zE ?_ GE496.out) | exact HB.out))); (case side6 => exact HC1_6.out); (case side7 => exact Kd.C_below HR1_8.out (by repeat (first | (with_reducible first | exact HB.out | apply zC | apply zB | apply zF | refine zE ?_ GE431.out | refine zE ?_ GE432.out | refine zE ?_ GE496.out) | exact HB.out))); (case side8 => exact HC1_8.out); (case side9 => exact Kd.C_below HR1_9.out (by repeat (first | (with_reducible first | exact HB.out | apply zC | apply zB | apply zF | refine zE ?_ GE431.out | refine zE ?_ GE432.out | refine zE ?_ GE496.out) | exact HB.out))); (case side10 => exact HC1_9.out); rintro e w51 ⟨v502, v505, v508, v512, v515, rfl, ho0, ho1, ho2, ho3, ho4, hb⟩; refine ⟨_, rfl, ?_⟩; have n0_ := zA (Kd.R_elder' (by (with_reducible repeat (first | apply zN | apply zM | apply zO)); exact (zP (Kd.R_far (p := ⟨gb496, 9, none⟩) (Kd.R_far (p := ⟨gb496, 8, none⟩) (Kd.R_far (p := ⟨gb496, 7, none⟩) (Kd.R_far (p := ⟨gb496, 6, none⟩) (Kd.R_far (p := ⟨gb496, 5, none⟩) (Kd.R_far (p := ⟨gb496, 4, none⟩) (Kd.R_far (p := ⟨gb496, 3, none⟩) (Kd.R_far (p := ⟨gb496, 2, none⟩) (Kd.R_far (p := ⟨gb496, 1, none⟩) (Kd.R_far (p := ⟨gb496, 0, none⟩) (zX HO441.out BK496.out (by decide)) (fun _ hk => hk.2) (.int .i64 t476)) (fun _ hk => hk.2) (.int .i64 t477)) (fun _ hk => hk.2) (.int .i64 t478)) (fun _ hk => hk.2) (.int .i64 t479)) (fun _ hk => hk.2) (.slice Ao45 t480.length co45)) (fun _ hk => hk.2) (.slice Ao46 t483.length co46)) (fun _ hk => hk.2) (.slice Ao47 t486.length co47)) (fun _ hk => hk.2) (.int .i64 t489)) (fun _ hk => hk.2) (.slice Ao48 t490.length co48)) (fun _ hk => hk.2) (.slice Ao49 t493.length co49)) (fun _ h_ => h_.1))) (Kd.R_base ho0) hb); have n1_ := zA (Kd.S_elder' (by (with_reducible repeat (first | apply zY | apply zZ | apply yA)); exact (yB (yC (p := ⟨gb496, 9, none⟩) (yC (p := ⟨gb496, 8, none⟩) (yC (p := ⟨gb496, 7, none⟩) (yC (p := ⟨gb496, 6, none⟩) (yC (p := ⟨gb496, 5, none⟩) (yC (p := ⟨gb496, 4, none⟩) (yC (p := ⟨gb496, 3, none⟩) (yC (p := ⟨gb496, 2, none⟩) (yC (p := ⟨gb496, 1, none⟩) (yC (p := ⟨gb496, 0, none⟩) (Kd.S_types HO444.out BK496.out (by decide)) (fun _ hk => hk.2) (.int .i64 t476)) (fun _ hk => hk.2) (.int .i64 t477)) (fun _ hk => hk.2) (.int .i64 t478)) (fun _ hk => hk.2) (.int .i64 t479)) (fun _ hk => hk.2) (.slice Ao45 t480.length co45)) (fun _ hk => hk.2) (.slice Ao46 t483.length co46)) (fun _ hk => hk.2) (.slice Ao47 t486.length co47)) (fun _ hk => hk.2) (.int .i64 t489)) (fun _ hk => hk.2) (.slice Ao48 t490.length co48)) (fun _ hk => hk.2) (.slice Ao49 t493.length co49)) (fun _ h_ => h_.1))) (Kd.S_base ho1) hb); have n2_ := zA (zP (Kd.R_told (Kd.R_told (Kd.R_old (by (with_reducible repeat (first | apply zN | apply zM | apply zO)); exact (zP (Kd.R_far (p := ⟨gb496, 9, none⟩) (Kd.R_far (p := ⟨gb496, 8, none⟩) (Kd.R_far (p := ⟨gb496, 7, none⟩) (Kd.R_far (p := ⟨gb496, 6, none⟩) (Kd.R_far (p := ⟨gb496, 5, none⟩) (Kd.R_far (p := ⟨gb496, 4, none⟩) (Kd.R_far (p := ⟨gb496, 3, none⟩) (Kd.R_far (p := ⟨gb496, 2, none⟩) (Kd.R_far (p := ⟨gb496, 1, none⟩) (Kd.R_far (p := ⟨gb496, 0, none⟩) (zX HO447.out BK496.out (by decide)) (fun _ hk => hk.2) (.int .i64 t476)) (fun _ hk => hk.2) (.int .i64 t477)) (fun _ hk => hk.2) (.int .i64 t478)) (fun _ hk => hk.2) (.int .i64 t479)) (fun _ hk => hk.2) (.slice Ao45 t480.length co45)) (fun _ hk => hk.2) (.slice Ao46 t483.length co46)) (fun _ hk => hk.2) (.slice Ao47 t486.length co47)) (fun _ hk => hk.2) (.int .i64 t489)) (fun _ hk => hk.2) (.slice Ao48 t490.length co48)) (fun _ hk => hk.2) (.slice Ao49 t493.length co49)) (fun _ h_ => h_.1))) hb) (Kd.S_base ho1)) (Kd.R_base ho2)) (fun _ h_ => h_.1)); have n3_ := zA (Kd.S_elder' (by (with_reducible repeat (first | apply zY | apply zZ | apply yA)); exact (yB (yC (p := ⟨gb496, 9, none⟩) (yC (p := ⟨gb496, 8, none⟩) (yC (p := ⟨gb496, 7, none⟩) (yC (p := ⟨gb496, 6, none⟩) (yC (p := ⟨gb496, 5, none⟩) (yC (p := ⟨gb496, 4, none⟩) (yC (p := ⟨gb496, 3, none⟩) (yC (p := ⟨gb496, 2, none⟩) (yC (p := ⟨gb496, 1, none⟩) (yC (p := ⟨gb496, 0, none⟩) (Kd.S_types HO451.out BK496.out (by decide)) (fun _ hk => hk.2) (.int .i64 t476)) (fun _ hk => hk.2) (.int .i64 t477)) (fun _ hk => hk.2) (.int .i64 t478)) (fun _ hk => hk.2) (.int .i64 t479)) (fun _ hk => hk.2) (.slice Ao45 t480.length co45)) (fun _ hk => hk.2) (.slice Ao46 t483.length co46)) (fun _ hk => hk.2) (.slice Ao47 t486.length co47)) (fun _ hk => hk.2) (.int .i64 t489)) (fun _ hk => hk.2) (.slice Ao48 t490.length co48)) (fun _ hk => hk.2) (.slice Ao49 t493.length co49)) (fun _ h_ => h_.1))) (Kd.S_base ho3) hb); have n4_ := zA (Kd.R_elder' (by (with_reducible repeat (first | apply zN | apply zM | apply zO)); exact (zP (Kd.R_far (p := ⟨gb496, 9, none⟩) (Kd.R_far (p := ⟨gb496, 8, none⟩) (Kd.R_far (p := ⟨gb496, 7, none⟩) (Kd.R_far (p := ⟨gb496, 6, none⟩) (Kd.R_far (p := ⟨gb496, 5, none⟩) (Kd.R_far (p := ⟨gb496, 4, none⟩) (Kd.R_far (p := ⟨gb496, 3, none⟩) (Kd.R_far (p := ⟨gb496, 2, none⟩) (Kd.R_far (p := ⟨gb496, 1, none⟩) (Kd.R_far (p := ⟨gb496, 0, none⟩) (zX HO454.out BK496.out (by decide)) (fun _ hk => hk.2) (.int .i64 t476)) (fun _ hk => hk.2) (.int .i64 t477)) (fun _ hk => hk.2) (.int .i64 t478)) (fun _ hk => hk.2) (.int .i64 t479)) (fun _ hk => hk.2) (.slice Ao45 t480.length co45)) (fun _ hk => hk.2) (.slice Ao46 t483.length co46)) (fun _ hk => hk.2) (.slice Ao47 t486.length co47)) (fun _ hk => hk.2) (.int .i64 t489)) (fun _ hk => hk.2) (.slice Ao48 t490.length co48)) (fun _ hk => hk.2) (.slice Ao49 t493.length co49)) (fun _ h_ => h_.1))) (Kd.R_base ho4) hb); have n5_ := zA (Kd.R_elder' (by (with_reducible repeat (first | apply zN | apply zM | apply zO)); exact (zP (Kd.R_far (p := ⟨gb496, 9, none⟩) (Kd.R_far (p := ⟨gb496, 8, none⟩) (Kd.R_far (p := ⟨gb496, 7, none⟩) (Kd.R_far (p := ⟨gb496, 6, none⟩) (Kd.R_far (p := ⟨gb496, 5, none⟩) (Kd.R_far (p := ⟨gb496, 4, none⟩) (Kd.R_far (p := ⟨gb496, 3, none⟩) (Kd.R_far (p := ⟨gb496, 2, none⟩) (Kd.R_far (p := ⟨gb496, 1, none⟩) (Kd.R_far (p := ⟨gb496, 0, none⟩) (zX HO461.out BK496.out (by decide)) (fun _ hk => hk.2) (.int .i64 t476)) (fun _ hk => hk.2) (.int .i64 t477)) (fun _ hk => hk.2) (.int .i64 t478)) (fun _ hk => hk.2) (.int .i64 t479)) (fun _ hk => hk.2) (.slice Ao45 t480.length co45)) (fun _ hk => hk.2) (.slice Ao46 t483.length co46)) (fun _ hk => hk.2) (.slice Ao47 t486.length co47)) (fun _ hk => hk.2) (.int .i64 t489)) (fun _ hk => hk.2) (.slice Ao48 t490.length co48)) (fun _ hk => hk.2) (.slice Ao49 t493.length co49)) (fun _ h_ => h_.1))) (Kd.R_base ho0) hb); have n6_ := zA (Kd.S_elder' (by (with_reducible repeat (first | apply zY | apply zZ | apply yA)); exact (yB (yC (p := ⟨gb496, 9, none⟩) (yC (p := ⟨gb496, 8, none⟩) (yC (p := ⟨gb496, 7, none⟩) (yC (p := ⟨gb496, 6, none⟩) (yC (p := ⟨gb496, 5, none⟩) (yC (p := ⟨gb496, 4, none⟩) (yC (p := ⟨gb496, 3, none⟩) (yC (p := ⟨gb496, 2, none⟩) (yC (p := ⟨gb496, 1, none⟩) (yC (p := ⟨gb496, 0, none⟩) (Kd.S_types HO464.out BK496.out (by decide)) (fun _ hk => hk.2) (.int .i64 t476)) (fun _ hk => hk.2) (.int .i64 t477)) (fun _ hk => hk.2) (.int .i64 t478)) (fun _ hk => hk.2) (.int .i64 t479)) (fun _ hk => hk.2) (.slice Ao45 t480.length co45)) (fun _ hk => hk.2) (.slice Ao46 t483.length co46)) (fun _ hk => hk.2) (.slice Ao47 t486.length co47)) (fun _ hk => hk.2) (.int .i64 t489)) (fun _ hk => hk.2) (.slice Ao48 t490.length co48)) (fun _ hk => hk.2) (.slice Ao49 t493.length co49)) (fun _ h_ => h_.1))) (Kd.S_base ho1) hb); have n7_ := zA (zP (Kd.R_told (Kd.R_told (Kd.R_old (by (with_reducible repeat (first | apply zN | apply zM | apply zO)); exact (zP (Kd.R_far (p := ⟨gb496, 9, none⟩) (Kd.R_far (p := ⟨gb496, 8, none⟩) (Kd.R_far (p := ⟨gb496, 7, none⟩) (Kd.R_far (p := ⟨gb496, 6, none⟩) (Kd.R_far (p := ⟨gb496, 5, none⟩) (Kd.R_far (p := ⟨gb496, 4, none⟩) (Kd.R_far (p := ⟨gb496, 3, none⟩) (Kd.R_far (p := ⟨gb496, 2, none⟩) (Kd.R_far (p := ⟨gb496, 1, none⟩) (Kd.R_far (p := ⟨gb496, 0, none⟩) (zX HO467.out BK496.out (by decide)) (fun _ hk => hk.2) (.int .i64 t476)) (fun _ hk => hk.2) (.int .i64 t477)) (fun _ hk => hk.2) (.int .i64 t478)) (fun _ hk => hk.2) (.int .i64 t479)) (fun _ hk => hk.2) (.slice Ao45 t480.length co45)) (fun _ hk => hk.2) (.slice Ao46 t483.length co46)) (fun _ hk => hk.2) (.slice Ao47 t486.length co47)) (fun _ hk => hk.2) (.int .i64 t489)) (fun _ hk => hk.2) (.slice Ao48 t490.length co48)) (fun _ hk => hk.2) (.slice Ao49 t493.length co49)) (fun _ h_ => h_.1))) hb) (Kd.S_base ho1)) (Kd.R_base ho2)) (fun _ h_ => h_.1)); have n8_ := zA (Kd.S_elder' (by (with_reducible repeat (first | apply zY | apply zZ | apply yA)); exact (yB (yC (p := ⟨gb496, 9, none⟩) (yC (p := ⟨gb496, 8, none⟩) (yC (p := ⟨gb496, 7, none⟩) (yC (p := ⟨gb496, 6, none⟩) (yC (p := ⟨gb496, 5, none⟩) (yC (p := ⟨gb496, 4, none⟩) (yC (p := ⟨gb496, 3, none⟩) (yC (p := ⟨gb496, 2, none⟩) (yC (p := ⟨gb496, 1, none⟩) (yC (p := ⟨gb496, 0, none⟩) (Kd.S_types HO471.out BK496.out (by decide)) (fun _ hk => hk.2) (.int .i64 t476)) (fun _ hk => hk.2) (.int .i64 t477)) (fun _ hk => hk.2) (.int .i64 t478)) (fun _ hk => hk.2) (.int .i64 t479)) (fun _ hk => hk.2) (.slice Ao45 t480.length co45)) (fun _ hk => hk.2) (.slice Ao46 t483.length co46)) (fun _ hk => hk.2) (.slice Ao47 t486.length co47)) (fun _ hk => hk.2) (.int .i64 t489)) (fun _ hk => hk.2) (.slice Ao48 t490.length co48)) (fun _ hk => hk.2) (.slice Ao49 t493.length co49)) (fun _ h_ => h_.1))) (Kd.S_base ho3) hb); have n9_ := zA (Kd.R_elder' (by (with_reducible repeat (first | apply zN | apply zM | apply zO)); exact (zP (Kd.R_far (p := ⟨gb496, 9, none⟩) (Kd.R_far (p := ⟨gb496, 8, none⟩) (Kd.R_far (p := ⟨gb496, 7, none⟩) (Kd.R_far (p := ⟨gb496, 6, none⟩) (Kd.R_far (p := ⟨gb496, 5, none⟩) (Kd.R_far (p := ⟨gb496, 4, none⟩) (Kd.R_far (p := ⟨gb496, 3, none⟩) (Kd.R_far (p := ⟨gb496, 2, none⟩) (Kd.R_far (p := ⟨gb496, 1, none⟩) (Kd.R_far (p := ⟨gb496, 0, none⟩) (zX HO474.out BK496.out (by decide)) (fun _ hk => hk.2) (.int .i64 t476)) (fun _ hk => hk.2) (.int .i64 t477)) (fun _ hk => hk.2) (.int .i64 t478)) (fun _ hk => hk.2) (.int .i64 t479)) (fun _ hk => hk.2) (.slice Ao45 t480.length co45)) (fun _ hk => hk.2) (.slice Ao46 t483.length co46)) (fun _ hk => hk.2) (.slice Ao47 t486.length co47)) (fun _ hk => hk.2) (.int .i64 t489)) (fun _ hk => hk.2) (.slice Ao48 t490.length co48)) (fun _ hk => hk.2) (.slice Ao49 t493.length co49)) (fun _ h_ => h_.1))) (Kd.R_base ho4) hb); have n10_ := zA (Kd.R_elder' (by (with_reducible repeat (first | apply zN | apply zM | apply zO)); exact (zP (Kd.R_far (p := ⟨gb496, 9, none⟩) (Kd.R_far (p := ⟨gb496, 8, none⟩) (Kd.R_far (p := ⟨gb496, 7, none⟩) (Kd.R_far (p := ⟨gb496, 6, none⟩) (Kd.R_far (p := ⟨gb496, 5, none⟩) (Kd.R_far (p := ⟨gb496, 4, none⟩) (Kd.R_far (p := ⟨gb496, 3, none⟩) (Kd.R_far (p := ⟨gb496, 2, none⟩) (Kd.R_far (p := ⟨gb496, 1, none⟩) (Kd.R_far (p := ⟨gb496, 0, none⟩) (zX HO482.out BK496.out (by decide)) (fun _ hk => hk.2) (.int .i64 t476)) (fun _ hk => hk.2) (.int .i64 t477)) (fun _ hk => hk.2) (.int .i64 t478)) (fun _ hk => hk.2) (.int .i64 t479)) (fun _ hk => hk.2) (.slice Ao45 t480.length co45)) (fun _ hk => hk.2) (.slice Ao46 t483.length co46)) (fun _ hk => hk.2) (.slice Ao47 t486.length co47)) (fun _ hk => hk.2) (.int .i64 t489)) (fun _ hk => hk.2) (.slice Ao48 t490.length co48)) (fun _ hk => hk.2) (.slice Ao49 t493.length co49)) (fun _ h_ => h_.1))) (Kd.R_base ho0) hb); have n11_ := zA (Kd.S_elder' (by (with_reducible repeat (first | apply zY | apply zZ | apply yA)); exact (yB (yC (p := ⟨gb496, 9, none⟩) (yC (p := ⟨gb496, 8, none⟩) (yC (p := ⟨gb496, 7, none⟩) (yC (p := ⟨gb496, 6, none⟩) (yC (p := ⟨gb496, 5, none⟩) (yC (p := ⟨gb496, 4, none⟩) (yC (p := ⟨gb496, 3, none⟩) (yC (p := ⟨gb496, 2, none⟩) (yC (p := ⟨gb496, 1, none⟩) (yC (p := ⟨gb496, 0, none⟩) (Kd.S_types HO485.out BK496.out (by decide)) (fun _ hk => hk.2) (.int .i64 t476)) (fun _ hk => hk.2) (.int .i64 t477)) (fun _ hk => hk.2) (.int .i64 t478)) (fun _ hk => hk.2) (.int .i64 t479)) (fun _ hk => hk.2) (.slice Ao45 t480.length co45)) (fun _ hk => hk.2) (.slice Ao46 t483.length co46)) (fun _ hk => hk.2) (.slice Ao47 t486.length co47)) (fun _ hk => hk.2) (.int .i64 t489)) (fun _ hk => hk.2) (.slice Ao48 t490.length co48)) (fun _ hk => hk.2) (.slice Ao49 t493.length co49)) (fun _ h_ => h_.1))) (Kd.S_base ho1) hb); have n12_ := zA (zP (Kd.R_told (Kd.R_told (Kd.R_old (by (with_reducible repeat (first | apply zN | apply zM | apply zO)); exact (zP (Kd.R_far (p := ⟨gb496, 9, none⟩) (Kd.R_far (p := ⟨gb496, 8, none⟩) (Kd.R_far (p := ⟨gb496, 7, none⟩) (Kd.R_far (p := ⟨gb496, 6, none⟩) (Kd.R_far (p := ⟨gb496, 5, none⟩) (Kd.R_far (p := ⟨gb496, 4, none⟩) (Kd.R_far (p := ⟨gb496, 3, none⟩) (Kd.R_far (p := ⟨gb496, 2, none⟩) (Kd.R_far (p := ⟨gb496, 1, none⟩) (Kd.R_far (p := ⟨gb496, 0, none⟩) (zX HO488.out BK496.out (by decide)) (fun _ hk => hk.2) (.int .i64 t476)) (fun _ hk => hk.2) (.int .i64 t477)) (fun _ hk => hk.2) (.int .i64 t478)) (fun _ hk => hk.2) (.int .i64 t479)) (fun _ hk => hk.2) (.slice Ao45 t480.length co45)) (fun _ hk => hk.2) (.slice Ao46 t483.length co46)) (fun _ hk => hk.2) (.slice Ao47 t486.length co47)) (fun _ hk => hk.2) (.int .i64 t489)) (fun _ hk => hk.2) (.slice Ao48 t490.length co48)) (fun _ hk => hk.2) (.slice Ao49 t493.length co49)) (fun _ h_ => h_.1))) hb) (Kd.S_base ho1)) (Kd.R_base ho2)) (fun _ h_ => h_.1)); have n13_ := zA (Kd.S_elder' (by (with_reducible repeat (first | apply zY | apply zZ | apply yA)); exact (yB (yC (p := ⟨gb496, 9, none⟩) (yC (p := ⟨gb496, 8, none⟩) (yC (p := ⟨gb496, 7, none⟩) (yC (p := ⟨gb496, 6, none⟩) (yC (p := ⟨gb496, 5, none⟩) (yC (p := ⟨gb496, 4, none⟩) (yC (p := ⟨gb496, 3, none⟩) (yC (p := ⟨gb496, 2, none⟩) (yC (p := ⟨gb496, 1, none⟩) (yC (p := ⟨gb496, 0, none⟩) (Kd.S_types HO492.out BK496.out (by decide)) (fun _ hk => hk.2) (.int .i64 t476)) (fun _ hk => hk.2) (.int .i64 t477)) (fun _ hk => hk.2) (.int .i64 t478)) (fun _ hk => hk.2) (.int .i64 t479)) (fun _ hk => hk.2) (.slice Ao45 t480.length co45)) (fun _ hk => hk.2) (.slice Ao46 t483.length co46)) (fun _ hk => hk.2) (.slice Ao47 t486.length co47)) (fun _ hk => hk.2) (.int .i64 t489)) (fun _ hk => hk.2) (.slice Ao48 t490.length co48)) (fun _ hk => hk.2) (.slice Ao49 t493.length co49)) (fun _ h_ => h_.1))) (Kd.S_base ho3) hb); have n14_ := zA (Kd.R_elder' (by (with_reducible repeat (first | apply zN | apply zM | apply zO)); exact (zP (Kd.R_far (p := ⟨gb496, 9, none⟩) (Kd.R_far (p := ⟨gb496, 8, none⟩) (Kd.R_far (p := ⟨gb496, 7, none⟩) (Kd.R_far (p := ⟨gb496, 6, none⟩) (Kd.R_far (p := ⟨gb496, 5, none⟩) (Kd.R_far (p := ⟨gb496, 4, none⟩) (Kd.R_far (p := ⟨gb496, 3, none⟩) (Kd.R_far (p := ⟨gb496, 2, none⟩) (Kd.R_far (p := ⟨gb496, 1, none⟩) (Kd.R_far (p := ⟨gb496, 0, none⟩) (zX HO495.out BK496.out (by decide)) (fun _ hk => hk.2) (.int .i64 t476)) (fun _ hk => hk.2) (.int .i64 t477)) (fun _ hk => hk.2) (.int .i64 t478)) (fun _ hk => hk.2) (.int .i64 t479)) (fun _ hk => hk.2) (.slice Ao45 t480.length co45)) (fun _ hk => hk.2) (.slice Ao46 t483.length co46)) (fun _ hk => hk.2) (.slice Ao47 t486.length co47)) (fun _ hk => hk.2) (.int .i64 t489)) (fun _ hk => hk.2) (.slice Ao48 t490.length co48)) (fun _ hk => hk.2) (.slice Ao49 t493.length co49)) (fun _ h_ => h_.1))) (Kd.R_base ho4) hb); have n15_ := zA (Kd.R_lower (Kd.R_new' (Kd.R_new' (Kd.R_new' ho0 (Kd.R_lt (by (with_reducible repeat (first | apply zN | apply zM | apply zO)); exact (zP (Kd.R_far (p := ⟨gb496, 9, none⟩) (Kd.R_far (p := ⟨gb496, 8, none⟩) (Kd.R_far (p := ⟨gb496, 7, none⟩) (Kd.R_far (p := ⟨gb496, 6, none⟩) (Kd.R_far (p := ⟨gb496, 5, none⟩) (Kd.R_far (p := ⟨gb496, 4, none⟩) (Kd.R_far (p := ⟨gb496, 3, none⟩) (Kd.R_far (p := ⟨gb496, 2, none⟩) (Kd.R_far (p := ⟨gb496, 1, none⟩) (Kd.R_far (p := ⟨gb496, 0, none⟩) (zX HO441.out BK496.out (by decide)) (fun _ hk => hk.2) (.int .i64 t476)) (fun _ hk => hk.2) (.int .i64 t477)) (fun _ hk => hk.2) (.int .i64 t478)) (fun _ hk => hk.2) (.int .i64 t479)) (fun _ hk => hk.2) (.slice Ao45 t480.length co45)) (fun _ hk => hk.2) (.slice Ao46 t483.length co46)) (fun _ hk => hk.2) (.slice Ao47 t486.length co47)) (fun _ hk => hk.2) (.int .i64 t489)) (fun _ hk => hk.2) (.slice Ao48 t490.length co48)) (fun _ hk => hk.2) (.slice Ao49 t493.length co49)) (fun _ h_ => h_.1))))) (Kd.R_lt (by (with_reducible repeat (first | apply zN | apply zM | apply zO)); exact (zP (Kd.R_far (p := ⟨gb496, 9, none⟩) (Kd.R_far (p := ⟨gb496, 8, none⟩) (Kd.R_far (p := ⟨gb496, 7, none⟩) (Kd.R_far (p := ⟨gb496, 6, none⟩) (Kd.R_far (p := ⟨gb496, 5, none⟩) (Kd.R_far (p := ⟨gb496, 4, none⟩) (Kd.R_far (p := ⟨gb496, 3, none⟩) (Kd.R_far (p := ⟨gb496, 2, none⟩) (Kd.R_far (p := ⟨gb496, 1, none⟩) (Kd.R_far (p := ⟨gb496, 0, none⟩) (zX HO461.out BK496.out (by decide)) (fun _ hk => hk.2) (.int .i64 t476)) (fun _ hk => hk.2) (.int .i64 t477)) (fun _ hk => hk.2) (.int .i64 t478)) (fun _ hk => hk.2) (.int .i64 t479)) (fun _ hk => hk.2) (.slice Ao45 t480.length co45)) (fun _ hk => hk.2) (.slice Ao46 t483.length co46)) (fun _ hk => hk.2) (.slice Ao47 t486.length co47)) (fun _ hk => hk.2) (.int .i64 t489)) (fun _ hk => hk.2) (.slice Ao48 t490.length co48)) (fun _ hk => hk.2) (.slice Ao49 t493.length co49)) (fun _ h_ => h_.1))))) (Kd.R_lt (by (with_reducible repeat (first | apply zN | apply zM | apply zO)); exact (zP (Kd.R_far (p := ⟨gb496, 9, none⟩) (Kd.R_far (p := ⟨gb496, 8, none⟩) (Kd.R_far (p := ⟨gb496, 7, none⟩) (Kd.R_far (p := ⟨gb496, 6, none⟩) (Kd.R_far (p := ⟨gb496, 5, none⟩) (Kd.R_far (p := ⟨gb496, 4, none⟩) (Kd.R_far (p := ⟨gb496, 3, none⟩) (Kd.R_far (p := ⟨gb496, 2, none⟩) (Kd.R_far (p := ⟨gb496, 1, none⟩) (Kd.R_far (p := ⟨gb496, 0, none⟩) (zX HO482.out BK496.out (by decide)) (fun _ hk => hk.2) (.int .i64 t476)) (fun _ hk => hk.2) (.int .i64 t477)) (fun _ hk => hk.2) (.int .i64 t478)) (fun _ hk => hk.2) (.int .i64 t479)) (fun _ hk => hk.2) (.slice Ao45 t480.length co45)) (fun _ hk => hk.2) (.slice Ao46 t483.length co46)) (fun _ hk => hk.2) (.slice Ao47 t486.length co47)) (fun _ hk => hk.2) (.int .i64 t489)) (fun _ hk => hk.2) (.slice Ao48 t490.length co48)) (fun _ hk => hk.2) (.slice Ao49 t493.length co49)) (fun _ h_ => h_.1))))) (zL (by repeat (first | (with_reducible first | exact HB.out | apply zC | apply zB | apply zF | refine zE ?_ GE431.out | refine zE ?_ GE432.out | refine zE ?_ GE496.out) | exact HB.out)))); have n16_ := zA (Kd.S_lower (Kd.S_new' (Kd.S_new' (Kd.S_new' ho1 (Kd.S_lt (by (with_reducible repeat (first | apply zY | apply zZ | apply yA)); exact (yB (yC (p := ⟨gb496, 9, none⟩) (yC (p := ⟨gb496, 8, none⟩) (yC (p := ⟨gb496, 7, none⟩) (yC (p := ⟨gb496, 6, none⟩) (yC (p := ⟨gb496, 5, none⟩) (yC (p := ⟨gb496, 4, none⟩) (yC (p := ⟨gb496, 3, none⟩) (yC (p := ⟨gb496, 2, none⟩) (yC (p := ⟨gb496, 1, none⟩) (yC (p := ⟨gb496, 0, none⟩) (Kd.S_types HO444.out BK496.out (by decide)) (fun _ hk => hk.2) (.int .i64 t476)) (fun _ hk => hk.2) (.int .i64 t477)) (fun _ hk => hk.2) (.int .i64 t478)) (fun _ hk => hk.2) (.int .i64 t479)) (fun _ hk => hk.2) (.slice Ao45 t480.length co45)) (fun _ hk => hk.2) (.slice Ao46 t483.length co46)) (fun _ hk => hk.2) (.slice Ao47 t486.length co47)) (fun _ hk => hk.2) (.int .i64 t489)) (fun _ hk => hk.2) (.slice Ao48 t490.length co48)) (fun _ hk => hk.2) (.slice Ao49 t493.length co49)) (fun _ h_ => h_.1))))) (Kd.S_lt (by (with_reducible repeat (first | apply zY | apply zZ | apply yA)); exact (yB (yC (p := ⟨gb496, 9, none⟩) (yC (p := ⟨gb496, 8, none⟩) (yC (p := ⟨gb496, 7, none⟩) (yC (p := ⟨gb496, 6, none⟩) (yC (p := ⟨gb496, 5, none⟩) (yC (p := ⟨gb496, 4, none⟩) (yC (p := ⟨gb496, 3, none⟩) (yC (p := ⟨gb496, 2, none⟩) (yC (p := ⟨gb496, 1, none⟩) (yC (p := ⟨gb496, 0, none⟩) (Kd.S_types HO464.out BK496.out (by decide)) (fun _ hk => hk.2) (.int .i64 t476)) (fun _ hk => hk.2) (.int .i64 t477)) (fun _ hk => hk.2) (.int .i64 t478)) (fun _ hk => hk.2) (.int .i64 t479)) (fun _ hk => hk.2) (.slice Ao45 t480.length co45)) (fun _ hk => hk.2) (.slice Ao46 t483.length co46)) (fun _ hk => hk.2) (.slice Ao47 t486.length co47)) (fun _ hk => hk.2) (.int .i64 t489)) (fun _ hk => hk.2) (.slice Ao48 t490.length co48)) (fun _ hk => hk.2) (.slice Ao49 t493.length co49)) (fun _ h_ => h_.1))))) (Kd.S_lt (by (with_reducible repeat (first | apply zY | apply zZ | apply yA)); exact (yB (yC (p := ⟨gb496, 9, none⟩) (yC (p := ⟨gb496, 8, none⟩) (yC (p := ⟨gb496, 7, none⟩) (yC (p := ⟨gb496, 6, none⟩) (yC (p := ⟨gb496, 5, none⟩) (yC (p := ⟨gb496, 4, none⟩) (yC (p := ⟨gb496, 3, none⟩) (yC (p := ⟨gb496, 2, none⟩) (yC (p := ⟨gb496, 1, none⟩) (yC (p := ⟨gb496, 0, none⟩) (Kd.S_types HO485.out BK496.out (by decide)) (fun _ hk => hk.2) (.int .i64 t476)) (fun _ hk => hk.2) (.int .i64 t477)) (fun _ hk => hk.2) (.int .i64 t478)) (fun _ hk => hk.2) (.int .i64 t479)) (fun _ hk => hk.2) (.slice Ao45 t480.length co45)) (fun _ hk => hk.2) (.slice Ao46 t483.length co46)) (fun _ hk => hk.2) (.slice Ao47 t486.length co47)) (fun _ hk => hk.2) (.int .i64 t489)) (fun _ hk => hk.2) (.slice Ao48 t490.length co48)) (fun _ hk => hk.2) (.slice Ao49 t493.length co49)) (fun _ h_ => h_.1))))) (zL (by repeat (first | (with_reducible first | exact HB.out | apply zC | apply zB | apply zF | refine zE ?_ GE431.out | refine zE ?_ GE432.out | refine zE ?_ GE496.out) | exact HB.out)))); have n17_ := zA (Kd.R_lower (Kd.R_new' (Kd.R_new' (Kd.R_new' (Kd.R_new' (Kd.R_new' (Kd.R_new' ho2 (Kd.S_lt (by (with_reducible repeat (first | apply zY | apply zZ | apply yA)); exact (yB (yC (p := ⟨gb496, 9, none⟩) (yC (p := ⟨gb496, 8, none⟩) (yC (p := ⟨gb496, 7, none⟩) (yC (p := ⟨gb496, 6, none⟩) (yC (p := ⟨gb496, 5, none⟩) (yC (p := ⟨gb496, 4, none⟩) (yC (p := ⟨gb496, 3, none⟩) (yC (p := ⟨gb496, 2, none⟩) (yC (p := ⟨gb496, 1, none⟩) (yC (p := ⟨gb496, 0, none⟩) (Kd.S_types HO444.out BK496.out (by decide)) (fun _ hk => hk.2) (.int .i64 t476)) (fun _ hk => hk.2) (.int .i64 t477)) (fun _ hk => hk.2) (.int .i64 t478)) (fun _ hk => hk.2) (.int .i64 t479)) (fun _ hk => hk.2) (.slice Ao45 t480.length co45)) (fun _ hk => hk.2) (.slice Ao46 t483.length co46)) (fun _ hk => hk.2) (.slice Ao47 t486.length co47)) (fun _ hk => hk.2) (.int .i64 t489)) (fun _ hk => hk.2) (.slice Ao48 t490.length co48)) (fun _ hk => hk.2) (.slice Ao49 t493.length co49)) (fun _ h_ => h_.1))))) (Kd.R_lt (by (with_reducible repeat (first | apply zN | apply zM | apply zO)); exact (zP (Kd.R_far (p := ⟨gb496, 9, none⟩) (Kd.R_far (p := ⟨gb496, 8, none⟩) (Kd.R_far (p := ⟨gb496, 7, none⟩) (Kd.R_far (p := ⟨gb496, 6, none⟩) (Kd.R_far (p := ⟨gb496, 5, none⟩) (Kd.R_far (p := ⟨gb496, 4, none⟩) (Kd.R_far (p := ⟨gb496, 3, none⟩) (Kd.R_far (p := ⟨gb496, 2, none⟩) (Kd.R_far (p := ⟨gb496, 1, none⟩) (Kd.R_far (p := ⟨gb496, 0, none⟩) (zX HO447.out BK496.out (by decide)) (fun _ hk => hk.2) (.int .i64 t476)) (fun _ hk => hk.2) (.int .i64 t477)) (fun _ hk => hk.2) (.int .i64 t478)) (fun _ hk => hk.2) (.int .i64 t479)) (fun _ hk => hk.2) (.slice Ao45 t480.length co45)) (fun _ hk => hk.2) (.slice Ao46 t483.length co46)) (fun _ hk => hk.2) (.slice Ao47 t486.length co47)) (fun _ hk => hk.2) (.int .i64 t489)) (fun _ hk => hk.2) (.slice Ao48 t490.length co48)) (fun _ hk => hk.2) (.slice Ao49 t493.length co49)) (fun _ h_ => h_.1))))) (Kd.S_lt (by (with_reducible repeat (first | apply zY | apply zZ | apply yA)); exact (yB (yC (p := ⟨gb496, 9, none⟩) (yC (p := ⟨gb496, 8, none⟩) (yC (p := ⟨gb496, 7, none⟩) (yC (p := ⟨gb496, 6, none⟩) (yC (p := ⟨gb496, 5, none⟩) (yC (p := ⟨gb496, 4, none⟩) (yC (p := ⟨gb496, 3, none⟩) (yC (p := ⟨gb496, 2, none⟩) (yC (p := ⟨gb496, 1, none⟩) (yC (p := ⟨gb496, 0, none⟩) (Kd.S_types HO464.out BK496.out (by decide)) (fun _ hk => hk.2) (.int .i64 t476)) (fun _ hk => hk.2) (.int .i64 t477)) (fun _ hk => hk.2) (.int .i64 t478)) (fun _ hk => hk.2) (.int .i64 t479)) (fun _ hk => hk.2) (.slice Ao45 t480.length co45)) (fun _ hk => hk.2) (.slice Ao46 t483.length co46)) (fun _ hk => hk.2) (.slice Ao47 t486.length co47)) (fun _ hk => hk.2) (.int .i64 t489)) (fun _ hk => hk.2) (.slice Ao48 t490.length co48)) (fun _ hk => hk.2) (.slice Ao49 t493.length co49)) (fun _ h_ => h_.1))))) (Kd.R_lt (by (with_reducible repeat (first | apply zN | apply zM | apply zO)); exact (zP (Kd.R_far (p := ⟨gb496, 9, none⟩) (Kd.R_far (p := ⟨gb496, 8, none⟩) (Kd.R_far (p := ⟨gb496, 7, none⟩) (Kd.R_far (p := ⟨gb496, 6, none⟩) (Kd.R_far (p := ⟨gb496, 5, none⟩) (Kd.R_far (p := ⟨gb496, 4, none⟩) (Kd.R_far (p := ⟨gb496, 3, none⟩) (Kd.R_far (p := ⟨gb496, 2, none⟩) (Kd.R_far (p := ⟨gb496, 1, none⟩) (Kd.R_far (p := ⟨gb496, 0, none⟩) (zX HO467.out BK496.out (by decide)) (fun _ hk => hk.2) (.int .i64 t476)) (fun _ hk => hk.2) (.int .i64 t477)) (fun _ hk => hk.2) (.int .i64 t478)) (fun _ hk => hk.2) (.int .i64 t479)) (fun _ hk => hk.2) (.slice Ao45 t480.length co45)) (fun _ hk => hk.2) (.slice Ao46 t483.length co46)) (fun _ hk => hk.2) (.slice Ao47 t486.length co47)) (fun _ hk => hk.2) (.int .i64 t489)) (fun _ hk => hk.2) (.slice Ao48 t490.length co48)) (fun _ hk => hk.2) (.slice Ao49 t493.length co49)) (fun _ h_ => h_.1))))) (Kd.S_lt (by (with_reducible repeat (first | apply zY | apply zZ | apply yA)); exact (yB (yC (p := ⟨gb496, 9, none⟩) (yC (p := ⟨gb496, 8, none⟩) (yC (p := ⟨gb496, 7, none⟩) (yC (p := ⟨gb496, 6, none⟩) (yC (p := ⟨gb496, 5, none⟩) (yC (p := ⟨gb496, 4, none⟩) (yC (p := ⟨gb496, 3, none⟩) (yC (p := ⟨gb496, 2, none⟩) (yC (p := ⟨gb496, 1, none⟩) (yC (p := ⟨gb496, 0, none⟩) (Kd.S_types HO485.out BK496.out (by decide)) (fun _ hk => hk.2) (.int .i64 t476)) (fun _ hk => hk.2) (.int .i64 t477)) (fun _ hk => hk.2) (.int .i64 t478)) (fun _ hk => hk.2) (.int .i64 t479)) (fun _ hk => hk.2) (.slice Ao45 t480.length co45)) (fun _ hk => hk.2) (.slice Ao46 t483.length co46)) (fun _ hk => hk.2) (.slice Ao47 t486.length co47)) (fun _ hk => hk.2) (.int .i64 t489)) (fun _ hk => hk.2) (.slice Ao48 t490.length co48)) (fun _ hk => hk.2) (.slice Ao49 t493.length co49)) (fun _ h_ => h_.1))))) (Kd.R_lt (by (with_reducible repeat (first | apply zN | apply zM | apply zO)); exact (zP (Kd.R_far (p := ⟨gb496, 9, none⟩) (Kd.R_far (p := ⟨gb496, 8, none⟩) (Kd.R_far (p := ⟨gb496, 7, none⟩) (Kd.R_far (p := ⟨gb496, 6, none⟩) (Kd.R_far (p := ⟨gb496, 5, none⟩) (Kd.R_far (p := ⟨gb496, 4, none⟩) (Kd.R_far (p := ⟨gb496, 3, none⟩) (Kd.R_far (p := ⟨gb496, 2, none⟩) (Kd.R_far (p := ⟨gb496, 1, none⟩) (Kd.R_far (p := ⟨gb496, 0, none⟩) (zX HO488.out BK496.out (by decide)) (fun _ hk => hk.2) (.int .i64 t476)) (fun _ hk => hk.2) (.int .i64 t477)) (fun _ hk => hk.2) (.int .i64 t478)) (fun _ hk => hk.2) (.int .i64 t479)) (fun _ hk => hk.2) (.slice Ao45 t480.length co45)) (fun _ hk => hk.2) (.slice Ao46 t483.length co46)) (fun _ hk => hk.2) (.slice Ao47 t486.length co47)) (fun _ hk => hk.2) (.int .i64 t489)) (fun _ hk => hk.2) (.slice Ao48 t490.length co48)) (fun _ hk => hk.2) (.slice Ao49 t493.length co49)) (fun _ h_ => h_.1))))) (zL (by repeat (first | (with_reducible first | exact HB.out | apply zC | apply zB | apply zF | refine zE ?_ GE431.out | refine zE ?_ GE432.out | refine zE ?_ GE496.out) | exact HB.out)))); have n18_ := zA (Kd.S_lower (Kd.S_new' (Kd.S_new' (Kd.S_new' ho3 (Kd.S_lt (by (with_reducible repeat (first | apply zY | apply zZ | apply yA)); exact (yB (yC (p := ⟨gb496, 9, none⟩) (yC (p := ⟨gb496, 8, none⟩) (yC (p := ⟨gb496, 7, none⟩) (yC (p := ⟨gb496, 6, none⟩) (yC (p := ⟨gb496, 5, none⟩) (yC (p := ⟨gb496, 4, none⟩) (yC (p := ⟨gb496, 3, none⟩) (yC (p := ⟨gb496, 2, none⟩) (yC (p := ⟨gb496, 1, none⟩) (yC (p := ⟨gb496, 0, none⟩) (Kd.S_types HO451.out BK496.out (by decide)) (fun _ hk => hk.2) (.int .i64 t476)) (fun _ hk => hk.2) (.int .i64 t477)) (fun _ hk => hk.2) (.int .i64 t478)) (fun _ hk => hk.2) (.int .i64 t479)) (fun _ hk => hk.2) (.slice Ao45 t480.length co45)) (fun _ hk => hk.2) (.slice Ao46 t483.length co46)) (fun _ hk => hk.2) (.slice Ao47 t486.length co47)) (fun _ hk => hk.2) (.int .i64 t489)) (fun _ hk => hk.2) (.slice Ao48 t490.length co48)) (fun _ hk => hk.2) (.slice Ao49 t493.length co49)) (fun _ h_ => h_.1))))) (Kd.S_lt (by (with_reducible repeat (first | apply zY | apply zZ | apply yA)); exact (yB (yC (p := ⟨gb496, 9, none⟩) (yC (p := ⟨gb496, 8, none⟩) (yC (p := ⟨gb496, 7, none⟩) (yC (p := ⟨gb496, 6, none⟩) (yC (p := ⟨gb496, 5, none⟩) (yC (p := ⟨gb496, 4, none⟩) (yC (p := ⟨gb496, 3, none⟩) (yC (p := ⟨gb496, 2, none⟩) (yC (p := ⟨gb496, 1, none⟩) (yC (p := ⟨gb496, 0, none⟩) (Kd.S_types HO471.out BK496.out (by decide)) (fun _ hk => hk.2) (.int .i64 t476)) (fun _ hk => hk.2) (.int .i64 t477)) (fun _ hk => hk.2) (.int .i64 t478)) (fun _ hk => hk.2) (.int .i64 t479)) (fun _ hk => hk.2) (.slice Ao45 t480.length co45)) (fun _ hk => hk.2) (.slice Ao46 t483.length co46)) (fun _ hk => hk.2) (.slice Ao47 t486.length co47)) (fun _ hk => hk.2) (.int .i64 t489)) (fun _ hk => hk.2) (.slice Ao48 t490.length co48)) (fun _ hk => hk.2) (.slice Ao49 t493.length co49)) (fun _ h_ => h_.1))))) (Kd.S_lt (by (with_reducible repeat (first | apply zY | apply zZ | apply yA)); exact (yB (yC (p := ⟨gb496, 9, none⟩) (yC (p := ⟨gb496, 8, none⟩) (yC (p := ⟨gb496, 7, none⟩) (yC (p := ⟨gb496, 6, none⟩) (yC (p := ⟨gb496, 5, none⟩) (yC (p := ⟨gb496, 4, none⟩) (yC (p := ⟨gb496, 3, none⟩) (yC (p := ⟨gb496, 2, none⟩) (yC (p := ⟨gb496, 1, none⟩) (yC (p := ⟨gb496, 0, none⟩) (Kd.S_types HO492.out BK496.out (by decide)) (fun _ hk => hk.2) (.int .i64 t476)) (fun _ hk => hk.2) (.int .i64 t477)) (fun _ hk => hk.2) (.int .i64 t478)) (fun _ hk => hk.2) (.int .i64 t479)) (fun _ hk => hk.2) (.slice Ao45 t480.length co45)) (fun _ hk => hk.2) (.slice Ao46 t483.length co46)) (fun _ hk => hk.2) (.slice Ao47 t486.length co47)) (fun _ hk => hk.2) (.int .i64 t489)) (fun _ hk => hk.2) (.slice Ao48 t490.length co48)) (fun _ hk => hk.2) (.slice Ao49 t493.length co49)) (fun _ h_ => h_.1))))) (zL (by repeat (first | (with_reducible first | exact HB.out | apply zC | apply zB | apply zF | refine zE ?_ GE431.out | refine zE ?_ GE432.out | refine zE ?_ GE496.out) | exact HB.out)))); have n19_ := zA (Kd.R_lower (Kd.R_new' (Kd.R_new' (Kd.R_new' ho4 (Kd.R_lt (by (with_reducible repeat (first | apply zN | apply zM | apply zO)); exact (zP (Kd.R_far (p := ⟨gb496, 9, none⟩) (Kd.R_far (p := ⟨gb496, 8, none⟩) (Kd.R_far (p := ⟨gb496, 7, none⟩) (Kd.R_far (p := ⟨gb496, 6, none⟩) (Kd.R_far (p := ⟨gb496, 5, none⟩) (Kd.R_far (p := ⟨gb496, 4, none⟩) (Kd.R_far (p := ⟨gb496, 3, none⟩) (Kd.R_far (p := ⟨gb496, 2, none⟩) (Kd.R_far (p := ⟨gb496, 1, none⟩) (Kd.R_far (p := ⟨gb496, 0, none⟩) (zX HO454.out BK496.out (by decide)) (fun _ hk => hk.2) (.int .i64 t476)) (fun _ hk => hk.2) (.int .i64 t477)) (fun _ hk => hk.2) (.int .i64 t478)) (fun _ hk => hk.2) (.int .i64 t479)) (fun _ hk => hk.2) (.slice Ao45 t480.length co45)) (fun _ hk => hk.2) (.slice Ao46 t483.length co46)) (fun _ hk => hk.2) (.slice Ao47 t486.length co47)) (fun _ hk => hk.2) (.int .i64 t489)) (fun _ hk => hk.2) (.slice Ao48 t490.length co48)) (fun _ hk => hk.2) (.slice Ao49 t493.length co49)) (fun _ h_ => h_.1))))) (Kd.R_lt (by (with_reducible repeat (first | apply zN | apply zM | apply zO)); exact (zP (Kd.R_far (p := ⟨gb496, 9, none⟩) (Kd.R_far (p := ⟨gb496, 8, none⟩) (Kd.R_far (p := ⟨gb496, 7, none⟩) (Kd.R_far (p := ⟨gb496, 6, none⟩) (Kd.R_far (p := ⟨gb496, 5, none⟩) (Kd.R_far (p := ⟨gb496, 4, none⟩) (Kd.R_far (p := ⟨gb496, 3, none⟩) (Kd.R_far (p := ⟨gb496, 2, none⟩) (Kd.R_far (p := ⟨gb496, 1, none⟩) (Kd.R_far (p := ⟨gb496, 0, none⟩) (zX HO474.out BK496.out (by decide)) (fun _ hk => hk.2) (.int .i64 t476)) (fun _ hk => hk.2) (.int .i64 t477)) (fun _ hk => hk.2) (.int .i64 t478)) (fun _ hk => hk.2) (.int .i64 t479)) (fun _ hk => hk.2) (.slice Ao45 t480.length co45)) (fun _ hk => hk.2) (.slice Ao46 t483.length co46)) (fun _ hk => hk.2) (.slice Ao47 t486.length co47)) (fun _ hk => hk.2) (.int .i64 t489)) (fun _ hk => hk.2) (.slice Ao48 t490.length co48)) (fun _ hk => hk.2) (.slice Ao49 t493.length co49)) (fun _ h_ => h_.1))))) (Kd.R_lt (by (with_reducible repeat (first | apply zN | apply zM | apply zO)); exact (zP (Kd.R_far (p := ⟨gb496, 9, none⟩) (Kd.R_far (p := ⟨gb496, 8, none⟩) (Kd.R_far (p := ⟨gb496, 7, none⟩) (Kd.R_far (p := ⟨gb496, 6, none⟩) (Kd.R_far (p := ⟨gb496, 5, none⟩) (Kd.R_far (p := ⟨gb496, 4, none⟩) (Kd.R_far (p := ⟨gb496, 3, none⟩) (Kd.R_far (p := ⟨gb496, 2, none⟩) (Kd.R_far (p := ⟨gb496, 1, none⟩) (Kd.R_far (p := ⟨gb496, 0, none⟩) (zX HO495.out BK496.out (by decide)) (fun _ hk => hk.2) (.int .i64 t476)) (fun _ hk => hk.2) (.int .i64 t477)) (fun _ hk => hk.2) (.int .i64 t478)) (fun _ hk => hk.2) (.int .i64 t479)) (fun _ hk => hk.2) (.slice Ao45 t480.length co45)) (fun _ hk => hk.2) (.slice Ao46 t483.length co46)) (fun _ hk => hk.2) (.slice Ao47 t486.length co47)) (fun _ hk => hk.2) (.int .i64 t489)) (fun _ hk => hk.2) (.slice Ao48 t490.length co48)) (fun _ hk => hk.2) (.slice Ao49 t493.length co49)) (fun _ h_ => h_.1))))) (zL (by repeat (first | (with_reducible first | exact HB.out | apply zC | apply zB | apply zF | refine zE ?_ GE431.out | refine zE ?_ GE432.out | refine zE ?_ GE496.out) | exact HB.out)))); have n20_ := zA (blk_below (g := gb431) (o := .cells #[.int .i64 a0_0, .int .i64 a0_1, .int .i64 a0_2, .int .i64 a0_3, .slice A0_4 l0_4.length c0_4, .slice A0_5 l0_5.length c0_5, .slice A0_6 l0_6.length c0_6, .int .i64 a0_7, .slice A0_8 l0_8.length c0_8, .slice A0_9 l0_9.length c0_9] 32 (0, 0)) (by (with_reducible repeat (first | refine zG ?_ _ | refine zH ?_ | refine zD ?_ _)); refine blk_far ?_ NB431_496.out _; (with_reducible repeat (first | refine zG ?_ _ | refine zH ?_ | refine zD ?_ _)); refine blk_far ?_ NB431_496.out _; (with_reducible repeat (first | refine zG ?_ _ | refine zH ?_ | refine zD ?_ _)); refine blk_far ?_ NB431_496.out _; (with_reducible repeat (first | refine zG ?_ _ | refine zH ?_ | refine zD ?_ _)); refine blk_far ?_ NB431_496.out _; (with_reducible repeat (first | refine zG ?_ _ | refine zH ?_ | refine zD ?_ _)); refine blk_far ?_ NB431_496.out _; (with_reducible repeat (first | refine zG ?_ _ | refine zH ?_ | refine zD ?_ _)); refine blk_far ?_ NB431_496.out _; (with_reducible repeat (first | refine zG ?_ _ | refine zH ?_ | refine zD ?_ _)); refine blk_far ?_ NB431_496.out _; (with_reducible repeat (first | refine zG ?_ _ | refine zH ?_ | refine zD ?_ _)); refine blk_far ?_ NB431_496.out _; (with_reducible repeat (first | refine zG ?_ _ | refine zH ?_ | refine zD ?_ _)); refine blk_far ?_ NB431_496.out _; (with_reducible repeat (first | refine zG ?_ _ | refine zH ?_ | refine zD ?_ _)); refine blk_far ?_ NB431_496.out _; (with_reducible repeat (first | refine zG ?_ _ | refine zH ?_ | refine zD ?_ _)); exact BK431.out) hb); have n21_ := zA (blk_below (g := gb432) (o := .cells #[.int .i64 a1_0, .int .i64 a1_1, .int .i64 a1_2, .int .i64 a1_3, .slice A1_4 l1_4.length c1_4, .slice A1_5 l1_5.length c1_5, .slice A1_6 l1_6.length c1_6, .int .i64 a1_7, .slice A1_8 l1_8.length c1_8, .slice A1_9 l1_9.length c1_9] 32 (0, 0)) (by (with_reducible repeat (first | refine zG ?_ _ | refine zH ?_ | refine zD ?_ _)); refine blk_far ?_ NB432_496.out _; (with_reducible repeat (first | refine zG ?_ _ | refine zH ?_ | refine zD ?_ _)); refine blk_far ?_ NB432_496.out _; (with_reducible repeat (first | refine zG ?_ _ | refine zH ?_ | refine zD ?_ _)); refine blk_far ?_ NB432_496.out _; (with_reducible repeat (first | refine zG ?_ _ | refine zH ?_ | refine zD ?_ _)); refine blk_far ?_ NB432_496.out _; (with_reducible repeat (first | refine zG ?_ _ | refine zH ?_ | refine zD ?_ _)); refine blk_far ?_ NB432_496.out _; (with_reducible repeat (first | refine zG ?_ _ | refine zH ?_ | refine zD ?_ _)); refine blk_far ?_ NB432_496.out _; (with_reducible repeat (first | refine zG ?_ _ | refine zH ?_ | refine zD ?_ _)); refine blk_far ?_ NB432_496.out _; (with_reducible repeat (first | refine zG ?_ _ | refine zH ?_ | refine zD ?_ _)); refine blk_far ?_ NB432_496.out _; (with_reducible repeat (first | refine zG ?_ _ | refine zH ?_ | refine zD ?_ _)); refine blk_far ?_ NB432_496.out _; (with_reducible repeat (first | refine zG ?_ _ | refine zH ?_ | refine zD ?_ _)); refine blk_far ?_ NB432_496.out _; (with_reducible repeat (first | refine zG ?_ _ | refine zH ?_ | refine zD ?_ _)); exact BK432.out) hb); have n22_ := zA (blk_below (g := gb496) (o := .cells #[.int .i64 t476, .int .i64 t477, .int .i64 t478, .int .i64 t479, .slice Ao45 t480.length co45, .slice Ao46 t483.length co46, .slice Ao47 t486.length co47, .int .i64 t489, .slice Ao48 t490.length co48, .slice Ao49 t493.length co49] 41 (0, 0)) (by (with_reducible repeat (first | refine zG ?_ _ | refine zH ?_ | refine zD ?_ _)); refine blk_put (cs := #[.int .i64 t476, .int .i64 t477, .int .i64 t478, .int .i64 t479, .slice Ao45 t480.length co45, .slice Ao46 t483.length co46, .slice Ao47 t486.length co47, .int .i64 t489, .slice Ao48 t490.length co48, .slice none 0 0]) ?_ 9 _ rfl; (with_reducible repeat (first | refine zG ?_ _ | refine zH ?_ | refine zD ?_ _)); refine blk_put (cs := #[.int .i64 t476, .int .i64 t477, .int .i64 t478, .int .i64 t479, .slice Ao45 t480.length co45, .slice Ao46 t483.length co46, .slice Ao47 t486.length co47, .int .i64 t489, .slice none 0 0, .slice none 0 0]) ?_ 8 _ rfl; (with_reducible repeat (first | refine zG ?_ _ | refine zH ?_ | refine zD ?_ _)); refine blk_put (cs := #[.int .i64 t476, .int .i64 t477, .int .i64 t478, .int .i64 t479, .slice Ao45 t480.length co45, .slice Ao46 t483.length co46, .slice Ao47 t486.length co47, .int .i64 0, .slice none 0 0, .slice none 0 0]) ?_ 7 _ rfl; (with_reducible repeat (first | refine zG ?_ _ | refine zH ?_ | refine zD ?_ _)); refine blk_put (cs := #[.int .i64 t476, .int .i64 t477, .int .i64 t478, .int .i64 t479, .slice Ao45 t480.length co45, .slice Ao46 t483.length co46, .slice none 0 0, .int .i64 0, .slice none 0 0, .slice none 0 0]) ?_ 6 _ rfl; (with_reducible repeat (first | refine zG ?_ _ | refine zH ?_ | refine zD ?_ _)); refine blk_put (cs := #[.int .i64 t476, .int .i64 t477, .int .i64 t478, .int .i64 t479, .slice Ao45 t480.length co45, .slice none 0 0, .slice none 0 0, .int .i64 0, .slice none 0 0, .slice none 0 0]) ?_ 5 _ rfl; (with_reducible repeat (first | refine zG ?_ _ | refine zH ?_ | refine zD ?_ _)); refine blk_put (cs := #[.int .i64 t476, .int .i64 t477, .int .i64 t478, .int .i64 t479, .slice none 0 0, .slice none 0 0, .slice none 0 0, .int .i64 0, .slice none 0 0, .slice none 0 0]) ?_ 4 _ rfl; (with_reducible repeat (first | refine zG ?_ _ | refine zH ?_ | refine zD ?_ _)); refine blk_put (cs := #[.int .i64 t476, .int .i64 t477, .int .i64 t478, .int .i64 0, .slice none 0 0, .slice none 0 0, .slice none 0 0, .int .i64 0, .slice none 0 0, .slice none 0 0]) ?_ 3 _ rfl; (with_reducible repeat (first | refine zG ?_ _ | refine zH ?_ | refine zD ?_ _)); refine blk_put (cs := #[.int .i64 t476, .int .i64 t477, .int .i64 0, .int .i64 0, .slice none 0 0, .slice none 0 0, .slice none 0 0, .int .i64 0, .slice none 0 0, .slice none 0 0]) ?_ 2 _ rfl; (with_reducible repeat (first | refine zG ?_ _ | refine zH ?_ | refine zD ?_ _)); refine blk_put (cs := #[.int .i64 t476, .int .i64 0, .int .i64 0, .int .i64 0, .slice none 0 0, .slice none 0 0, .slice none 0 0, .int .i64 0, .slice none 0 0, .slice none 0 0]) ?_ 1 _ rfl; (with_reducible repeat (first | refine zG ?_ _ | refine zH ?_ | refine zD ?_ _)); refine blk_put (cs := #[.int .i64 0, .int .i64 0, .int .i64 0, .int .i64 0, .slice none 0 0, .slice none 0 0, .slice none 0 0, .int .i64 0, .slice none 0 0, .slice none 0 0]) ?_ 0 _ rfl; (with_reducible repeat (first | refine zG ?_ _ | refine zH ?_ | refine zD ?_ _)); exact BK496.out) hb); have n23_ := zA (below_step (by repeat (first | (with_reducible first | exact HB.out | apply zC | apply zB | apply zF | refine zE ?_ GE431.out | refine zE ?_ GE432.out | refine zE ?_ GE496.out) | exact HB.out)) hb); clear HO441; clear HO444; clear HO447; clear HO451; clear HO454; clear HO461; clear HO464; clear HO467; clear HO471; clear HO474; clear HO482; clear HO485; clear HO488; clear HO492; clear HO495; clear BK431; clear BK432; clear BK496; clear HB; have HO441 := n0_; have HO444 := n1_; have HO447 := n2_; have HO451 := n3_; have HO454 := n4_; have HO461 := n5_; have HO464 := n6_; have HO467 := n7_; have HO471 := n8_; have HO474 := n9_; have HO482 := n10_; have HO485 := n11_; have HO488 := n12_; have HO492 := n13_; have HO495 := n14_; have HO503 := n15_; have HO506 := n16_; have HO509 := n17_; have HO513 := n18_; have HO516 := n19_; have BK431 := n20_; have BK432 := n21_; have BK496 := n22_; have HB := n23_; clear n0_ n1_ n2_ n3_ n4_ n5_ n6_ n7_ n8_ n9_ n10_ n11_ n12_ n13_ n14_ n15_ n16_ n17_ n18_ n19_ n20_ n21_ n22_ n23_; (try clear hb); (try clear hb2); (try clear hk); (try clear hi); (try clear ho0); (try clear ho1); (try clear ho2); (try clear ho3); (try clear ho4)) | ((with_reducible refine gate_dst (N := 8) rfl ?_); refine box_event ?hg (N := 8) ?hd (cs := #[.int .i64 0, .int .i64 0, .int .i64 0, .int .i64 0, .slice none 0 0, .slice none 0 0, .slice none 0 0, .int .i64 0, .slice none 0 0, .slice none 0 0]) (t := 41) ?hr ?_; (case hd => rfl); (case hg => rfl); (case hr => first | (go_simp; done) | (go_simp; rfl)); intro gb517 hg w52 hbox hb; have n0_ := zA (Kd.R_below (by (with_reducible repeat (first | apply zN | apply zM | apply zO)); exact HO441.out) hb); have n1_ := zA (Kd.S_below (by (with_reducible repeat (first | apply zY | apply zZ | apply yA)); exact HO444.out) hb); have n2_ := zA (Kd.R_below (by (with_reducible repeat (first | apply zN | apply zM | apply zO)); exact HO447.out) hb); have n3_ := zA (Kd.S_below (by (with_reducible repeat (first | apply zY | apply zZ | apply yA)); exact HO451.out) hb); have n4_ := zA (Kd.R_below (by (with_reducible repeat (first | apply zN | apply zM | apply zO)); exact HO454.out) hb); have n5_ := zA (Kd.R_below (by (with_reducible repeat (first | apply zN | apply zM | apply zO)); exact HO461.out) hb); have n6_ := zA (Kd.S_below (by (with_reducible repeat (first | apply zY | apply zZ | apply yA)); exact HO464.out) hb); have n7_ := zA (Kd.R_below (by (with_reducible repeat (first | apply zN | apply zM | apply zO)); exact HO467.out) hb); have n8_ := zA (Kd.S_below (by (with_reducible repeat (first | apply zY | apply zZ | apply yA)); exact HO471.out) hb); have n9_ := zA (Kd.R_below (by (with_reducible repeat (first | apply zN | apply zM | apply zO)); exact HO474.out) hb); have n10_ := zA (Kd.R_below (by (with_reducible repeat (first | apply zN | apply zM | apply zO)); exact HO482.out) hb); have n11_ := zA (Kd.S_below (by (with_reducible repeat (first | apply zY | apply zZ | apply yA)); exact HO485.out) hb); have n12_ := zA (Kd.R_below (by (with_reducible repeat (first | apply zN | apply zM | apply zO)); exact HO488.out) hb); have n13_ := zA (Kd.S_below (by (with_reducible repeat (first | apply zY | apply zZ | apply yA)); exact HO492.out) hb); have n14_ := zA (Kd.R_below (by (with_reducible repeat (first | apply zN | apply zM | apply zO)); exact HO495.out) hb); have n15_ := zA (Kd.R_below (by (with_reducible repeat (first | apply zN | apply zM | apply zO)); exact HO503.out) hb); have n16_ := zA (Kd.S_below (by (with_reducible repeat (first | apply zY | apply zZ | apply yA)); exact HO506.out) hb); have n17_ := zA (Kd.R_below (by (with_reducible repeat (first | apply zN | apply zM | apply zO)); exact HO509.out) hb); have n18_ := zA (Kd.S_below (by (with_reducible repeat (first | apply zY | apply zZ | apply yA)); exact HO513.out) hb); have n19_ := zA (Kd.R_below (by (with_reducible repeat (first | apply zN | apply zM | apply zO)); exact HO516.out) hb); have n20_ := zA (blk_below (g := gb431) (o := .cells #[.int .i64 a0_0, .int .i64 a0_1, .int .i64 a0_2, .int .i64 a0_3, .slice A0_4 l0_4.length c0_4, .slice A0_5 l0_5.length c0_5, .slice A0_6 l0_6.length c0_6, .int .i64 a0_7, .slice A0_8 l0_8.length c0_8, .slice A0_9 l0_9.length c0_9] 32 (0, 0)) (by (with_reducible repeat (first | refine zG ?_ _ | refine zH ?_ | refine zD ?_ _)); exact BK431.out) hb); have n21_ := zA (blk_below (g := gb432) (o := .cells #[.int .i64 a1_0, .int .i64 a1_1, .int .i64 a1_2, .int .i64 a1_3, .slice A1_4 l1_4.length c1_4, .slice A1_5 l1_5.length c1_5, .slice A1_6 l1_6.length c1_6, .int .i64 a1_7, .slice A1_8 l1_8.length c1_8, .slice A1_9 l1_9.length c1_9] 32 (0, 0)) (by (with_reducible repeat (first | refine zG ?_ _ | refine zH ?_ | refine zD ?_ _)); exact BK432.out) hb); have n22_ := zA (blk_below (g := gb496) (o := .cells #[.int .i64 t476, .int .i64 t477, .int .i64 t478, .int .i64 t479, .slice Ao45 t480.length co45, .slice Ao46 t483.length co46, .slice Ao47 t486.length co47, .int .i64 t489, .slice Ao48 t490.length co48, .slice Ao49 t493.length co49] 41 (0, 0)) (by (with_reducible repeat (first | refine zG ?_ _ | refine zH ?_ | refine zD ?_ _)); exact BK496.out) hb); have n23_ := zA (below_step (by repeat (first | (with_reducible first | exact HB.out | apply zC | apply zB | apply zF | refine zE ?_ GE431.out | refine zE ?_ GE432.out | refine zE ?_ GE496.out) | exact HB.out)) hb); have n24_ := zA (hbox); have n25_ := zA ((by rw [hg]; exact (zL (by repeat (first | (with_reducible first | exact HB.out | apply zC | apply zB | apply zF | refine zE ?_ GE431.out | refine zE ?_ GE432.out | refine zE ?_ GE496.out) | exact HB.out))) : w.heap.size ≤ gb517)); have n26_ := zA ((by rw [hg]; exact (zL (by repeat (first | (with_reducible first | exact HB.out | apply zC | apply zB | apply zF | refine zE ?_ GE431.out | refine zE ?_ GE432.out | refine zE ?_ GE496.out) | exact HB.out))) : w.heap.size ≤ gb517)); have n27_ := zA ((by rw [hg]; exact Nat.ne_of_lt (blk_lt (g := gb431) (o := .cells #[.int .i64 a0_0, .int .i64 a0_1, .int .i64 a0_2, .int .i64 a0_3, .slice A0_4 l0_4.length c0_4, .slice A0_5 l0_5.length c0_5, .slice A0_6 l0_6.length c0_6, .int .i64 a0_7, .slice A0_8 l0_8.length c0_8, .slice A0_9 l0_9.length c0_9] 32 (0, 0)) (by (with_reducible repeat (first | refine zG ?_ _ | refine zH ?_ | refine zD ?_ _)); exact BK431.out)) : gb431 ≠ gb517)); have n28_ := zA ((by rw [hg]; exact Nat.ne_of_gt (blk_lt (g := gb431) (o := .cells #[.int .i64 a0_0, .int .i64 a0_1, .int .i64 a0_2, .int .i64 a0_3, .slice A0_4 l0_4.length c0_4, .slice A0_5 l0_5.length c0_5, .slice A0_6 l0_6.length c0_6, .int .i64 a0_7, .slice A0_8 l0_8.length c0_8, .slice A0_9 l0_9.length c0_9] 32 (0, 0)) (by (with_reducible repeat (first | refine zG ?_ _ | refine zH ?_ | refine zD ?_ _)); exact BK431.out)) : gb517 ≠ gb431)); have n29_ := zA ((by rw [hg]; exact Nat.ne_of_lt (blk_lt (g := gb432) (o := .cells #[.int .i64 a1_0, .int .i64 a1_1, .int .i64 a1_2, .int .i64 a1_3, .slice A1_4 l1_4.length c1_4, .slice A1_5 l1_5.length c1_5, .slice A1_6 l1_6.length c1_6, .int .i64 a1_7, .slice A1_8 l1_8.length c1_8, .slice A1_9 l1_9.length c1_9] 32 (0, 0)) (by (with_reducible repeat (first | refine zG ?_ _ | refine zH ?_ | refine zD ?_ _)); exact BK432.out)) : gb432 ≠ gb517)); have n30_ := zA ((by rw [hg]; exact Nat.ne_of_gt (blk_lt (g := gb432) (o := .cells #[.int .i64 a1_0, .int .i64 a1_1, .int .i64 a1_2, .int .i64 a1_3, .slice A1_4 l1_4.length c1_4, .slice A1_5 l1_5.length c1_5, .slice A1_6 l1_6.length c1_6, .int .i64 a1_7, .slice A1_8 l1_8.length c1_8, .slice A1_9 l1_9.length c1_9] 32 (0, 0)) (by (with_reducible repeat (first | refine zG ?_ _ | refine zH ?_ | refine zD ?_ _)); exact BK432.out)) : gb517 ≠ gb432)); have n31_ := zA ((by rw [hg]; exact Nat.ne_of_lt (blk_lt (g := gb496) (o := .cells #[.int .i64 t476, .int .i64 t477, .int .i64 t478, .int .i64 t479, .slice Ao45 t480.length co45, .slice Ao46 t483.length co46, .slice Ao47 t486.length co47, .int .i64 t489, .slice Ao48 t490.length co48, .slice Ao49 t493.length co49] 41 (0, 0)) (by (with_reducible repeat (first | refine zG ?_ _ | refine zH ?_ | refine zD ?_ _)); exact BK496.out)) : gb496 ≠ gb517)); have n32_ := zA ((by rw [hg]; exact Nat.ne_of_gt (blk_lt (g := gb496) (o := .cells #[.int .i64 t476, .int .i64 t477, .int .i64 t478, .int .i64 t479, .slice Ao45 t480.length co45, .slice Ao46 t483.length co46, .slice Ao47 t486.length co47, .int .i64 t489, .slice Ao48 t490.length co48, .slice Ao49 t493.length co49] 41 (0, 0)) (by (with_reducible repeat (first | refine zG ?_ _ | refine zH ?_ | refine zD ?_ _)); exact BK496.out)) : gb517 ≠ gb496)); clear HO441; clear HO444; clear HO447; clear HO451; clear HO454; clear HO461; clear HO464; clear HO467; clear HO471; clear HO474; clear HO482; clear HO485; clear HO488; clear HO492; clear HO495; clear HO503; clear HO506; clear HO509; clear HO513; clear HO516; clear BK431; clear BK432; clear BK496; clear HB; have HO441 := n0_; have HO444 := n1_; have HO447 := n2_; have HO451 := n3_; have HO454 := n4_; have HO461 := n5_; have HO464 := n6_; have HO467 := n7_; have HO471 := n8_; have HO474 := n9_; have HO482 := n10_; have HO485 := n11_; have HO488 := n12_; have HO492 := n13_; have HO495 := n14_; have HO503 := n15_; have HO506 := n16_; have HO509 := n17_; have HO513 := n18_; have HO516 := n19_; have BK431 := n20_; have BK432 := n21_; have BK496 := n22_; have HB := n23_; have BK517 := n24_; have GW517 := n25_; have GE517 := n26_; have NB431_517 := n27_; have NB517_431 := n28_; have NB432_517 := n29_; have NB517_432 := n30_; have NB496_517 := n31_; have NB517_496 := n32_; clear n0_ n1_ n2_ n3_ n4_ n5_ n6_ n7_ n8_ n9_ n10_ n11_ n12_ n13_ n14_ n15_ n16_ n17_ n18_ n19_ n20_ n21_ n22_ n23_ n24_ n25_ n26_ n27_ n28_ n29_ n30_ n31_ n32_; clear hb hbox hg; have hnb53 := NB517_431.out; have hnc53 := NB431_517.out; have hnb54 := NB517_432.out; have hnc54 := NB432_517.out; have hnb55 := NB517_496.out; have hnc55 := NB496_517.out; have hcz56_0 : w52.cell? ⟨gb517, 0, none⟩ = some (.int .i64 0) := (zK BK517.out 0).trans rfl; have hcz56_1 : w52.cell? ⟨gb517, 1, none⟩ = some (.int .i64 0) := (zK BK517.out 1).trans rfl; have hcz56_2 : w52.cell? ⟨gb517, 2, none⟩ = some (.int .i64 0) := (zK BK517.out 2).trans rfl; have hcz56_3 : w52.cell? ⟨gb517, 3, none⟩ = some (.int .i64 0) := (zK BK517.out 3).trans rfl; have hcz56_4 : w52.cell? ⟨gb517, 4, none⟩ = some (.slice none 0 0) := (zK BK517.out 4).trans rfl; have hcz56_5 : w52.cell? ⟨gb517, 5, none⟩ = some (.slice none 0 0) := (zK BK517.out 5).trans rfl; have hcz56_6 : w52.cell? ⟨gb517, 6, none⟩ = some (.slice none 0 0) := (zK BK517.out 6).trans rfl; have hcz56_7 : w52.cell? ⟨gb517, 7, none⟩ = some (.int .i64 0) := (zK BK517.out 7).trans rfl; have hcz56_8 : w52.cell? ⟨gb517, 8, none⟩ = some (.slice none 0 0) := (zK BK517.out 8).trans rfl; have hcz56_9 : w52.cell? ⟨gb517, 9, none⟩ = some (.slice none 0 0) := (zK BK517.out 9).trans rfl; have hfz56_0 := zJ BK517.out 0; have hfz56_1 := zJ BK517.out 1; have hfz56_2 := zJ BK517.out 2; have hfz56_3 := zJ BK517.out 3; have hfz56_4 := zJ BK517.out 4; have hfz56_5 := zJ BK517.out 5; have hfz56_6 := zJ BK517.out 6; have hfz56_7 := zJ BK517.out 7; have hfz56_8 := zJ BK517.out 8; have hfz56_9 := zJ BK517.out 9; obtain ⟨Ao57, co57, eo57⟩ := Kd.R_slice HO503.out; subst eo57; obtain ⟨Ao58, co58, eo58⟩ := Kd.S_slice HO506.out; subst eo58; obtain ⟨Ao59, co59, eo59⟩ := Kd.R_slice HO509.out; subst eo59; obtain ⟨Ao60, co60, eo60⟩ := Kd.S_slice HO513.out; subst eo60; obtain ⟨Ao61, co61, eo61⟩ := Kd.R_slice HO516.out; subst eo61; have hcz62_0 : w52.cell? ⟨gb496, 0, none⟩ = some (.int .i64 t476) := (zK BK496.out 0).trans rfl; have hcz62_1 : w52.cell? ⟨gb496, 1, none⟩ = some (.int .i64 t477) := (zK BK496.out 1).trans rfl; have hcz62_2 : w52.cell? ⟨gb496, 2, none⟩ = some (.int .i64 t478) := (zK BK496.out 2).trans rfl; have hcz62_3 : w52.cell? ⟨gb496, 3, none⟩ = some (.int .i64 t479) := (zK BK496.out 3).trans rfl; have hcz62_4 : w52.cell? ⟨gb496, 4, none⟩ = some (.slice Ao45 t480.length co45) := (zK BK496.out 4).trans rfl; have hcz62_5 : w52.cell? ⟨gb496, 5, none⟩ = some (.slice Ao46 t483.length co46) := (zK BK496.out 5).trans rfl; have hcz62_6 : w52.cell? ⟨gb496, 6, none⟩ = some (.slice Ao47 t486.length co47) := (zK BK496.out 6).trans rfl; have hcz62_7 : w52.cell? ⟨gb496, 7, none⟩ = some (.int .i64 t489) := (zK BK496.out 7).trans rfl; have hcz62_8 : w52.cell? ⟨gb496, 8, none⟩ = some (.slice Ao48 t490.length co48) := (zK BK496.out 8).trans rfl; have hcz62_9 : w52.cell? ⟨gb496, 9, none⟩ = some (.slice Ao49 t493.length co49) := (zK BK496.out 9).trans rfl; have hfz62_0 := zJ BK496.out 0; have hfz62_1 := zJ BK496.out 1; have hfz62_2 := zJ BK496.out 2; have hfz62_3 := zJ BK496.out 3; have hfz62_4 := zJ BK496.out 4; have hfz62_5 := zJ BK496.out 5; have hfz62_6 := zJ BK496.out 6; have hfz62_7 := zJ BK496.out 7; have hfz62_8 := zJ BK496.out 8; have hfz62_9 := zJ BK496.out 9) | ((with_reducible refine gate_callee (f := 7) rfl ?_); refine goesL_ (some 31) rfl rfl Tryz.func7 (by kernel_rfl) rfl #[.agg #[.int .i64 t476, .int .i64 t477, .int .i64 t478, .int .i64 t479, .slice Ao45 t480.length co45, .slice Ao46 t483.length co46, .slice Ao47 t486.length co47, .int .i64 t489, .slice Ao48 t490.length co48, .slice Ao49 t493.length co49], .agg #[.int .i64 t497, .int .i64 t498, .int .i64 t499, .int .i64 t500, .slice Ao57 t501.length co57, .slice Ao58 t504.length co58, .slice Ao59 t507.length co59, .int .i64 t510, .slice Ao60 t511.length co60, .slice Ao61 t514.length co61]] rfl (by (try simp only [zU, zV, zW]); first | done | rfl | (simp only [zR, zQ]; rfl)) ?_; (with_reducible refine (impl_SameStream.calls t476 t477 t478 t479 _ _ t480 _ _ t483 _ _ t486 t489 _ _ t490 _ _ t493 t497 t498 t499 t500 _ _ t501 _ _ t504 _ _ t507 t510 _ _ t511 _ _ t514 t518 _ ?side1 ?side2 ?side3 ?side4 ?side5 ?side6 ?side7 ?side8 ?side9 ?side10 ?side11 ?side12 ?side13 ?side14 ?side15 ?side16 ?side17 ?side18 ?side19 ?side20 A22.out).mono ?_); (case side1 => refine (yE (e := 53) (base := w.heap.size) (ok := fun k_ => (((True ∧ some k_ ≠ (.slice Ao27 t439.length co27 : Value).ownBlock) ∧ some k_ ≠ (.slice Ao32 t459.length co32 : Value).ownBlock) ∧ some k_ ≠ (.slice Ao57 t501.length co57 : Value).ownBlock)) (n := t480.length) (c := co45) ?_).2.2; exact (by (with_reducible repeat (first | apply zN | apply zM | apply zO)); exact (zP (Kd.R_far (p := ⟨gb517, 9, none⟩) (Kd.R_far (p := ⟨gb517, 8, none⟩) (Kd.R_far (p := ⟨gb517, 7, none⟩) (Kd.R_far (p := ⟨gb517, 6, none⟩) (Kd.R_far (p := ⟨gb517, 5, none⟩) (Kd.R_far (p := ⟨gb517, 4, none⟩) (Kd.R_far (p := ⟨gb517, 3, none⟩) (Kd.R_far (p := ⟨gb517, 2, none⟩) (Kd.R_far (p := ⟨gb517, 1, none⟩) (Kd.R_far (p := ⟨gb517, 0, none⟩) (zX HO482.out BK517.out (by decide)) (fun _ hk => hk.2) (.int .i64 t497)) (fun _ hk => hk.2) (.int .i64 t498)) (fun _ hk => hk.2) (.int .i64 t499)) (fun _ hk => hk.2) (.int .i64 t500)) (fun _ hk => hk.2) (.slice Ao57 t501.length co57)) (fun _ hk => hk.2) (.slice Ao58 t504.length co58)) (fun _ hk => hk.2) (.slice Ao59 t507.length co59)) (fun _ hk => hk.2) (.int .i64 t510)) (fun _ hk => hk.2) (.slice Ao60 t511.length co60)) (fun _ hk => hk.2) (.slice Ao61 t514.length co61)) (fun _ h_ => h_.1)))); (case side2 => exact (yE HO482.out).2.1); (case side3 => refine (Kd.S_reads' (e := 66) (base := w.heap.size) (ok := fun k_ => (((True ∧ some k_ ≠ (.slice Ao28 t442.length co28 : Value).ownBlock) ∧ some k_ ≠ (.slice Ao33 t462.length co33 : Value).ownBlock) ∧ some k_ ≠ (.slice Ao58 t504.length co58 : Value).ownBlock)) (n := t483.length) (c := co46) ?_).2.2; exact (by (with_reducible repeat (first | apply zY | apply zZ | apply yA)); exact (yB (yC (p := ⟨gb517, 9, none⟩) (yC (p := ⟨gb517, 8, none⟩) (yC (p := ⟨gb517, 7, none⟩) (yC (p := ⟨gb517, 6, none⟩) (yC (p := ⟨gb517, 5, none⟩) (yC (p := ⟨gb517, 4, none⟩) (yC (p := ⟨gb517, 3, none⟩) (yC (p := ⟨gb517, 2, none⟩) (yC (p := ⟨gb517, 1, none⟩) (yC (p := ⟨gb517, 0, none⟩) (Kd.S_types HO485.out BK517.out (by decide)) (fun _ hk => hk.2) (.int .i64 t497)) (fun _ hk => hk.2) (.int .i64 t498)) (fun _ hk => hk.2) (.int .i64 t499)) (fun _ hk => hk.2) (.int .i64 t500)) (fun _ hk => hk.2) (.slice Ao57 t501.length co57)) (fun _ hk => hk.2) (.slice Ao58 t504.length co58)) (fun _ hk => hk.2) (.slice Ao59 t507.length co59)) (fun _ hk => hk.2) (.int .i64 t510)) (fun _ hk => hk.2) (.slice Ao60 t511.length co60)) (fun _ hk => hk.2) (.slice Ao61 t514.length co61)) (fun _ h_ => h_.1)))); (case side4 => exact (Kd.S_reads' HO485.out).2.1); (case side5 => refine (yE (e := 25) (base := w.heap.size) (ok := fun k_ => ((((((some k_ ≠ (.slice Ao46 t483.length co46 : Value).ownBlock ∧ some k_ ≠ (.slice Ao28 t442.length co28 : Value).ownBlock) ∧ some k_ ≠ (.slice Ao29 t445.length co29 : Value).ownBlock) ∧ some k_ ≠ (.slice Ao33 t462.length co33 : Value).ownBlock) ∧ some k_ ≠ (.slice Ao34 t465.length co34 : Value).ownBlock) ∧ some k_ ≠ (.slice Ao58 t504.length co58 : Value).ownBlock) ∧ some k_ ≠ (.slice Ao59 t507.length co59 : Value).ownBlock)) (n := t486.length) (c := co47) ?_).2.2; exact (by (with_reducible repeat (first | apply zN | apply zM | apply zO)); exact (zP (Kd.R_far (p := ⟨gb517, 9, none⟩) (Kd.R_far (p := ⟨gb517, 8, none⟩) (Kd.R_far (p := ⟨gb517, 7, none⟩) (Kd.R_far (p := ⟨gb517, 6, none⟩) (Kd.R_far (p := ⟨gb517, 5, none⟩) (Kd.R_far (p := ⟨gb517, 4, none⟩) (Kd.R_far (p := ⟨gb517, 3, none⟩) (Kd.R_far (p := ⟨gb517, 2, none⟩) (Kd.R_far (p := ⟨gb517, 1, none⟩) (Kd.R_far (p := ⟨gb517, 0, none⟩) (zX HO488.out BK517.out (by decide)) (fun _ hk => hk.2) (.int .i64 t497)) (fun _ hk => hk.2) (.int .i64 t498)) (fun _ hk => hk.2) (.int .i64 t499)) (fun _ hk => hk.2) (.int .i64 t500)) (fun _ hk => hk.2) (.slice Ao57 t501.length co57)) (fun _ hk => hk.2) (.slice Ao58 t504.length co58)) (fun _ hk => hk.2) (.slice Ao59 t507.length co59)) (fun _ hk => hk.2) (.int .i64 t510)) (fun _ hk => hk.2) (.slice Ao60 t511.length co60)) (fun _ hk => hk.2) (.slice Ao61 t514.length co61)) (fun _ h_ => h_.1)))); (case side6 => exact (yE HO488.out).2.1); (case side7 => refine (Kd.S_reads' (e := 79) (base := w.heap.size) (ok := fun k_ => (((True ∧ some k_ ≠ (.slice Ao30 t449.length co30 : Value).ownBlock) ∧ some k_ ≠ (.slice Ao35 t469.length co35 : Value).ownBlock) ∧ some k_ ≠ (.slice Ao60 t511.length co60 : Value).ownBlock)) (n := t490.length) (c := co48) ?_).2.2; exact (by (with_reducible repeat (first | apply zY | apply zZ | apply yA)); exact (yB (yC (p := ⟨gb517, 9, none⟩) (yC (p := ⟨gb517, 8, none⟩) (yC (p := ⟨gb517, 7, none⟩) (yC (p := ⟨gb517, 6, none⟩) (yC (p := ⟨gb517, 5, none⟩) (yC (p := ⟨gb517, 4, none⟩) (yC (p := ⟨gb517, 3, none⟩) (yC (p := ⟨gb517, 2, none⟩) (yC (p := ⟨gb517, 1, none⟩) (yC (p := ⟨gb517, 0, none⟩) (Kd.S_types HO492.out BK517.out (by decide)) (fun _ hk => hk.2) (.int .i64 t497)) (fun _ hk => hk.2) (.int .i64 t498)) (fun _ hk => hk.2) (.int .i64 t499)) (fun _ hk => hk.2) (.int .i64 t500)) (fun _ hk => hk.2) (.slice Ao57 t501.length co57)) (fun _ hk => hk.2) (.slice Ao58 t504.length co58)) (fun _ hk => hk.2) (.slice Ao59 t507.length co59)) (fun _ hk => hk.2) (.int .i64 t510)) (fun _ hk => hk.2) (.slice Ao60 t511.length co60)) (fun _ hk => hk.2) (.slice Ao61 t514.length co61)) (fun _ h_ => h_.1)))); (case side8 => exact (Kd.S_reads' HO492.out).2.1); (case side9 => refine (yE (e := 5) (base := w.heap.size) (ok := fun k_ => (((True ∧ some k_ ≠ (.slice Ao31 t452.length co31 : Value).ownBlock) ∧ some k_ ≠ (.slice Ao36 t472.length co36 : Value).ownBlock) ∧ some k_ ≠ (.slice Ao61 t514.length co61 : Value).ownBlock)) (n := t493.length) (c := co49) ?_).2.2; exact (by (with_reducible repeat (first | apply zN | apply zM | apply zO)); exact (zP (Kd.R_far (p := ⟨gb517, 9, none⟩) (Kd.R_far (p := ⟨gb517, 8, none⟩) (Kd.R_far (p := ⟨gb517, 7, none⟩) (Kd.R_far (p := ⟨gb517, 6, none⟩) (Kd.R_far (p := ⟨gb517, 5, none⟩) (Kd.R_far (p := ⟨gb517, 4, none⟩) (Kd.R_far (p := ⟨gb517, 3, none⟩) (Kd.R_far (p := ⟨gb517, 2, none⟩) (Kd.R_far (p := ⟨gb517, 1, none⟩) (Kd.R_far (p := ⟨gb517, 0, none⟩) (zX HO495.out BK517.out (by decide)) (fun _ hk => hk.2) (.int .i64 t497)) (fun _ hk => hk.2) (.int .i64 t498)) (fun _ hk => hk.2) (.int .i64 t499)) (fun _ hk => hk.2) (.int .i64 t500)) (fun _ hk => hk.2) (.slice Ao57 t501.length co57)) (fun _ hk => hk.2) (.slice Ao58 t504.length co58)) (fun _ hk => hk.2) (.slice Ao59 t507.length co59)) (fun _ hk => hk.2) (.int .i64 t510)) (fun _ hk => hk.2) (.slice Ao60 t511.length co60)) (fun _ hk => hk.2) (.slice Ao61 t514.length co61)) (fun _ h_ => h_.1)))); (case side10 => exact (yE HO495.out).2.1); (case side11 => refine (yE (e := 53) (base := w.heap.size) (ok := fun k_ => (((True ∧ some k_ ≠ (.slice Ao27 t439.length co27 : Value).ownBlock) ∧ some k_ ≠ (.slice Ao32 t459.length co32 : Value).ownBlock) ∧ some k_ ≠ (.slice Ao45 t480.length co45 : Value).ownBlock)) (n := t501.length) (c := co57) ?_).2.2; exact (by (with_reducible repeat (first | apply zN | apply zM | apply zO)); exact (zP (Kd.R_far (p := ⟨gb517, 9, none⟩) (Kd.R_far (p := ⟨gb517, 8, none⟩) (Kd.R_far (p := ⟨gb517, 7, none⟩) (Kd.R_far (p := ⟨gb517, 6, none⟩) (Kd.R_far (p := ⟨gb517, 5, none⟩) (Kd.R_far (p := ⟨gb517, 4, none⟩) (Kd.R_far (p := ⟨gb517, 3, none⟩) (Kd.R_far (p := ⟨gb517, 2, none⟩) (Kd.R_far (p := ⟨gb517, 1, none⟩) (Kd.R_far (p := ⟨gb517, 0, none⟩) (zX HO503.out BK517.out (by decide)) (fun _ hk => hk.2) (.int .i64 t497)) (fun _ hk => hk.2) (.int .i64 t498)) (fun _ hk => hk.2) (.int .i64 t499)) (fun _ hk => hk.2) (.int .i64 t500)) (fun _ hk => hk.2) (.slice Ao57 t501.length co57)) (fun _ hk => hk.2) (.slice Ao58 t504.length co58)) (fun _ hk => hk.2) (.slice Ao59 t507.length co59)) (fun _ hk => hk.2) (.int .i64 t510)) (fun _ hk => hk.2) (.slice Ao60 t511.length co60)) (fun _ hk => hk.2) (.slice Ao61 t514.length co61)) (fun _ h_ => h_.1)))); (case side12 => exact (yE HO503.out).2.1); (case side13 => refine (Kd.S_reads' (e := 66) (base := w.heap.size) (ok := fun k_ => (((True ∧ some k_ ≠ (.slice Ao28 t442.length co28 : Value).ownBlock) ∧ some k_ ≠ (.slice Ao33 t462.length co33 : Value).ownBlock) ∧ some k_ ≠ (.slice Ao46 t483.length co46 : Value).ownBlock)) (n := t504.length) (c := co58) ?_).2.2; exact (by (with_reducible repeat (first | apply zY | apply zZ | apply yA)); exact (yB (yC (p := ⟨gb517, 9, none⟩) (yC (p := ⟨gb517, 8, none⟩) (yC (p := ⟨gb517, 7, none⟩) (yC (p := ⟨gb517, 6, none⟩) (yC (p := ⟨gb517, 5, none⟩) (yC (p := ⟨gb517, 4, none⟩) (yC (p := ⟨gb517, 3, none⟩) (yC (p := ⟨gb517, 2, none⟩) (yC (p := ⟨gb517, 1, none⟩) (yC (p := ⟨gb517, 0, none⟩) (Kd.S_types HO506.out BK517.out (by decide)) (fun _ hk => hk.2) (.int .i64 t497)) (fun _ hk => hk.2) (.int .i64 t498)) (fun _ hk => hk.2) (.int .i64 t499)) (fun _ hk => hk.2) (.int .i64 t500)) (fun _ hk => hk.2) (.slice Ao57 t501.length co57)) (fun _ hk => hk.2) (.slice Ao58 t504.length co58)) (fun _ hk => hk.2) (.slice Ao59 t507.length co59)) (fun _ hk => hk.2) (.int .i64 t510)) (fun _ hk => hk.2) (.slice Ao60 t511.length co60)) (fun _ hk => hk.2) (.slice Ao61 t514.length co61)) (fun _ h_ => h_.1)))); (case side14 => exact (Kd.S_reads' HO506.out).2.1); (case side15 => refine (yE (e := 25) (base := w.heap.size) (ok := fun k_ => ((((((some k_ ≠ (.slice Ao58 t504.length co58 : Value).ownBlock ∧ some k_ ≠ (.slice Ao28 t442.length co28 : Value).ownBlock) ∧ some k_ ≠ (.slice Ao29 t445.length co29 : Value).ownBlock) ∧ some k_ ≠ (.slice Ao33 t462.length co33 : Value).ownBlock) ∧ some k_ ≠ (.slice Ao34 t465.length co34 : Value).ownBlock) ∧ some k_ ≠ (.slice Ao46 t483.length co46 : Value).ownBlock) ∧ some k_ ≠ (.slice Ao47 t486.length co47 : Value).ownBlock)) (n := t507.length) (c := co59) ?_).2.2; exact (by (with_reducible repeat (first | apply zN | apply zM | apply zO)); exact (zP (Kd.R_far (p := ⟨gb517, 9, none⟩) (Kd.R_far (p := ⟨gb517, 8, none⟩) (Kd.R_far (p := ⟨gb517, 7, none⟩) (Kd.R_far (p := ⟨gb517, 6, none⟩) (Kd.R_far (p := ⟨gb517, 5, none⟩) (Kd.R_far (p := ⟨gb517, 4, none⟩) (Kd.R_far (p := ⟨gb517, 3, none⟩) (Kd.R_far (p := ⟨gb517, 2, none⟩) (Kd.R_far (p := ⟨gb517, 1, none⟩) (Kd.R_far (p := ⟨gb517, 0, none⟩) (zX HO509.out BK517.out (by decide)) (fun _ hk => hk.2) (.int .i64 t497)) (fun _ hk => hk.2) (.int .i64 t498)) (fun _ hk => hk.2) (.int .i64 t499)) (fun _ hk => hk.2) (.int .i64 t500)) (fun _ hk => hk.2) (.slice Ao57 t501.length co57)) (fun _ hk => hk.2) (.slice Ao58 t504.length co58)) (fun _ hk => hk.2) (.slice Ao59 t507.length co59)) (fun _ hk => hk.2) (.int .i64 t510)) (fun _ hk => hk.2) (.slice Ao60 t511.length co60)) (fun _ hk => hk.2) (.slice Ao61 t514.length co61)) (fun _ h_ => h_.1)))); (case side16 => exact (yE HO509.out).2.1); (case side17 => refine (Kd.S_reads' (e := 79) (base := w.heap.size) (ok := fun k_ => (((True ∧ some k_ ≠ (.slice Ao30 t449.length co30 : Value).ownBlock) ∧ some k_ ≠ (.slice Ao35 t469.length co35 : Value).ownBlock) ∧ some k_ ≠ (.slice Ao48 t490.length co48 : Value).ownBlock)) (n := t511.length) (c := co60) ?_).2.2; exact (by (with_reducible repeat (first | apply zY | apply zZ | apply yA)); exact (yB (yC (p := ⟨gb517, 9, none⟩) (yC (p := ⟨gb517, 8, none⟩) (yC (p := ⟨gb517, 7, none⟩) (yC (p := ⟨gb517, 6, none⟩) (yC (p := ⟨gb517, 5, none⟩) (yC (p := ⟨gb517, 4, none⟩) (yC (p := ⟨gb517, 3, none⟩) (yC (p := ⟨gb517, 2, none⟩) (yC (p := ⟨gb517, 1, none⟩) (yC (p := ⟨gb517, 0, none⟩) (Kd.S_types HO513.out BK517.out (by decide)) (fun _ hk => hk.2) (.int .i64 t497)) (fun _ hk => hk.2) (.int .i64 t498)) (fun _ hk => hk.2) (.int .i64 t499)) (fun _ hk => hk.2) (.int .i64 t500)) (fun _ hk => hk.2) (.slice Ao57 t501.length co57)) (fun _ hk => hk.2) (.slice Ao58 t504.length co58)) (fun _ hk => hk.2) (.slice Ao59 t507.length co59)) (fun _ hk => hk.2) (.int .i64 t510)) (fun _ hk => hk.2) (.slice Ao60 t511.length co60)) (fun _ hk => hk.2) (.slice Ao61 t514.length co61)) (fun _ h_ => h_.1)))); (case side18 => exact (Kd.S_reads' HO513.out).2.1); (case side19 => refine (yE (e := 5) (base := w.heap.size) (ok := fun k_ => (((True ∧ some k_ ≠ (.slice Ao31 t452.length co31 : Value).ownBlock) ∧ some k_ ≠ (.slice Ao36 t472.length co36 : Value).ownBlock) ∧ some k_ ≠ (.slice Ao49 t493.length co49 : Value).ownBlock)) (n := t514.length) (c := co61) ?_).2.2; exact (by (with_reducible repeat (first | apply zN | apply zM | apply zO)); exact (zP (Kd.R_far (p := ⟨gb517, 9, none⟩) (Kd.R_far (p := ⟨gb517, 8, none⟩) (Kd.R_far (p := ⟨gb517, 7, none⟩) (Kd.R_far (p := ⟨gb517, 6, none⟩) (Kd.R_far (p := ⟨gb517, 5, none⟩) (Kd.R_far (p := ⟨gb517, 4, none⟩) (Kd.R_far (p := ⟨gb517, 3, none⟩) (Kd.R_far (p := ⟨gb517, 2, none⟩) (Kd.R_far (p := ⟨gb517, 1, none⟩) (Kd.R_far (p := ⟨gb517, 0, none⟩) (zX HO516.out BK517.out (by decide)) (fun _ hk => hk.2) (.int .i64 t497)) (fun _ hk => hk.2) (.int .i64 t498)) (fun _ hk => hk.2) (.int .i64 t499)) (fun _ hk => hk.2) (.int .i64 t500)) (fun _ hk => hk.2) (.slice Ao57 t501.length co57)) (fun _ hk => hk.2) (.slice Ao58 t504.length co58)) (fun _ hk => hk.2) (.slice Ao59 t507.length co59)) (fun _ hk => hk.2) (.int .i64 t510)) (fun _ hk => hk.2) (.slice Ao60 t511.length co60)) (fun _ hk => hk.2) (.slice Ao61 t514.length co61)) (fun _ h_ => h_.1)))); (case side20 => exact (yE HO516.out).2.1); rintro e w63 ⟨rfl, hb⟩; refine ⟨_, rfl, ?_⟩; have n0_ := zA (Kd.R_below (by (with_reducible repeat (first | apply zN | apply zM | apply zO)); exact (zP (Kd.R_far (p := ⟨gb517, 9, none⟩) (Kd.R_far (p := ⟨gb517, 8, none⟩) (Kd.R_far (p := ⟨gb517, 7, none⟩) (Kd.R_far (p := ⟨gb517, 6, none⟩) (Kd.R_far (p := ⟨gb517, 5, none⟩) (Kd.R_far (p := ⟨gb517, 4, none⟩) (Kd.R_far (p := ⟨gb517, 3, none⟩) (Kd.R_far (p := ⟨gb517, 2, none⟩) (Kd.R_far (p := ⟨gb517, 1, none⟩) (Kd.R_far (p := ⟨gb517, 0, none⟩) (zX HO441.out BK517.out (by decide)) (fun _ hk => hk.2) (.int .i64 t497)) (fun _ hk => hk.2) (.int .i64 t498)) (fun _ hk => hk.2) (.int .i64 t499)) (fun _ hk => hk.2) (.int .i64 t500)) (fun _ hk => hk.2) (.slice Ao57 t501.length co57)) (fun _ hk => hk.2) (.slice Ao58 t504.length co58)) (fun _ hk => hk.2) (.slice Ao59 t507.length co59)) (fun _ hk => hk.2) (.int .i64 t510)) (fun _ hk => hk.2) (.slice Ao60 t511.length co60)) (fun _ hk => hk.2) (.slice Ao61 t514.length co61)) (fun _ h_ => h_.1))) hb); have n1_ := zA (Kd.S_below (by (with_reducible repeat (first | apply zY | apply zZ | apply yA)); exact (yB (yC (p := ⟨gb517, 9, none⟩) (yC (p := ⟨gb517, 8, none⟩) (yC (p := ⟨gb517, 7, none⟩) (yC (p := ⟨gb517, 6, none⟩) (yC (p := ⟨gb517, 5, none⟩) (yC (p := ⟨gb517, 4, none⟩) (yC (p := ⟨gb517, 3, none⟩) (yC (p := ⟨gb517, 2, none⟩) (yC (p := ⟨gb517, 1, none⟩) (yC (p := ⟨gb517, 0, none⟩) (Kd.S_types HO444.out BK517.out (by decide)) (fun _ hk => hk.2) (.int .i64 t497)) (fun _ hk => hk.2) (.int .i64 t498)) (fun _ hk => hk.2) (.int .i64 t499)) (fun _ hk => hk.2) (.int .i64 t500)) (fun _ hk => hk.2) (.slice Ao57 t501.length co57)) (fun _ hk => hk.2) (.slice Ao58 t504.length co58)) (fun _ hk => hk.2) (.slice Ao59 t507.length co59)) (fun _ hk => hk.2) (.int .i64 t510)) (fun _ hk => hk.2) (.slice Ao60 t511.length co60)) (fun _ hk => hk.2) (.slice Ao61 t514.length co61)) (fun _ h_ => h_.1))) hb); have n2_ := zA (Kd.R_below (by (with_reducible repeat (first | apply zN | apply zM | apply zO)); exact (zP (Kd.R_far (p := ⟨gb517, 9, none⟩) (Kd.R_far (p := ⟨gb517, 8, none⟩) (Kd.R_far (p := ⟨gb517, 7, none⟩) (Kd.R_far (p := ⟨gb517, 6, none⟩) (Kd.R_far (p := ⟨gb517, 5, none⟩) (Kd.R_far (p := ⟨gb517, 4, none⟩) (Kd.R_far (p := ⟨gb517, 3, none⟩) (Kd.R_far (p := ⟨gb517, 2, none⟩) (Kd.R_far (p := ⟨gb517, 1, none⟩) (Kd.R_far (p := ⟨gb517, 0, none⟩) (zX HO447.out BK517.out (by decide)) (fun _ hk => hk.2) (.int .i64 t497)) (fun _ hk => hk.2) (.int .i64 t498)) (fun _ hk => hk.2) (.int .i64 t499)) (fun _ hk => hk.2) (.int .i64 t500)) (fun _ hk => hk.2) (.slice Ao57 t501.length co57)) (fun _ hk => hk.2) (.slice Ao58 t504.length co58)) (fun _ hk => hk.2) (.slice Ao59 t507.length co59)) (fun _ hk => hk.2) (.int .i64 t510)) (fun _ hk => hk.2) (.slice Ao60 t511.length co60)) (fun _ hk => hk.2) (.slice Ao61 t514.length co61)) (fun _ h_ => h_.1))) hb); have n3_ := zA (Kd.S_below (by (with_reducible repeat (first | apply zY | apply zZ | apply yA)); exact (yB (yC (p := ⟨gb517, 9, none⟩) (yC (p := ⟨gb517, 8, none⟩) (yC (p := ⟨gb517, 7, none⟩) (yC (p := ⟨gb517, 6, none⟩) (yC (p := ⟨gb517, 5, none⟩) (yC (p := ⟨gb517, 4, none⟩) (yC (p := ⟨gb517, 3, none⟩) (yC (p := ⟨gb517, 2, none⟩) (yC (p := ⟨gb517, 1, none⟩) (yC (p := ⟨gb517, 0, none⟩) (Kd.S_types HO451.out BK517.out (by decide)) (fun _ hk => hk.2) (.int .i64 t497)) (fun _ hk => hk.2) (.int .i64 t498)) (fun _ hk => hk.2) (.int .i64 t499)) (fun _ hk => hk.2) (.int .i64 t500)) (fun _ hk => hk.2) (.slice Ao57 t501.length co57)) (fun _ hk => hk.2) (.slice Ao58 t504.length co58)) (fun _ hk => hk.2) (.slice Ao59 t507.length co59)) (fun _ hk => hk.2) (.int .i64 t510)) (fun _ hk => hk.2) (.slice Ao60 t511.length co60)) (fun _ hk => hk.2) (.slice Ao61 t514.length co61)) (fun _ h_ => h_.1))) hb); have n4_ := zA (Kd.R_below (by (with_reducible repeat (first | apply zN | apply zM | apply zO)); exact (zP (Kd.R_far (p := ⟨gb517, 9, none⟩) (Kd.R_far (p := ⟨gb517, 8, none⟩) (Kd.R_far (p := ⟨gb517, 7, none⟩) (Kd.R_far (p := ⟨gb517, 6, none⟩) (Kd.R_far (p := ⟨gb517, 5, none⟩) (Kd.R_far (p := ⟨gb517, 4, none⟩) (Kd.R_far (p := ⟨gb517, 3, none⟩) (Kd.R_far (p := ⟨gb517, 2, none⟩) (Kd.R_far (p := ⟨gb517, 1, none⟩) (Kd.R_far (p := ⟨gb517, 0, none⟩) (zX HO454.out BK517.out (by decide)) (fun _ hk => hk.2) (.int .i64 t497)) (fun _ hk => hk.2) (.int .i64 t498)) (fun _ hk => hk.2) (.int .i64 t499)) (fun _ hk => hk.2) (.int .i64 t500)) (fun _ hk => hk.2) (.slice Ao57 t501.length co57)) (fun _ hk => hk.2) (.slice Ao58 t504.length co58)) (fun _ hk => hk.2) (.slice Ao59 t507.length co59)) (fun _ hk => hk.2) (.int .i64 t510)) (fun _ hk => hk.2) (.slice Ao60 t511.length co60)) (fun _ hk => hk.2) (.slice Ao61 t514.length co61)) (fun _ h_ => h_.1))) hb); have n5_ := zA (Kd.R_below (by (with_reducible repeat (first | apply zN | apply zM | apply zO)); exact (zP (Kd.R_far (p := ⟨gb517, 9, none⟩) (Kd.R_far (p := ⟨gb517, 8, none⟩) (Kd.R_far (p := ⟨gb517, 7, none⟩) (Kd.R_far (p := ⟨gb517, 6, none⟩) (Kd.R_far (p := ⟨gb517, 5, none⟩) (Kd.R_far (p := ⟨gb517, 4, none⟩) (Kd.R_far (p := ⟨gb517, 3, none⟩) (Kd.R_far (p := ⟨gb517, 2, none⟩) (Kd.R_far (p := ⟨gb517, 1, none⟩) (Kd.R_far (p := ⟨gb517, 0, none⟩) (zX HO461.out BK517.out (by decide)) (fun _ hk => hk.2) (.int .i64 t497)) (fun _ hk => hk.2) (.int .i64 t498)) (fun _ hk => hk.2) (.int .i64 t499)) (fun _ hk => hk.2) (.int .i64 t500)) (fun _ hk => hk.2) (.slice Ao57 t501.length co57)) (fun _ hk => hk.2) (.slice Ao58 t504.length co58)) (fun _ hk => hk.2) (.slice Ao59 t507.length co59)) (fun _ hk => hk.2) (.int .i64 t510)) (fun _ hk => hk.2) (.slice Ao60 t511.length co60)) (fun _ hk => hk.2) (.slice Ao61 t514.length co61)) (fun _ h_ => h_.1))) hb); have n6_ := zA (Kd.S_below (by (with_reducible repeat (first | apply zY | apply zZ | apply yA)); exact (yB (yC (p := ⟨gb517, 9, none⟩) (yC (p := ⟨gb517, 8, none⟩) (yC (p := ⟨gb517, 7, none⟩) (yC (p := ⟨gb517, 6, none⟩) (yC (p := ⟨gb517, 5, none⟩) (yC (p := ⟨gb517, 4, none⟩) (yC (p := ⟨gb517, 3, none⟩) (yC (p := ⟨gb517, 2, none⟩) (yC (p := ⟨gb517, 1, none⟩) (yC (p := ⟨gb517, 0, none⟩) (Kd.S_types HO464.out BK517.out (by decide)) (fun _ hk => hk.2) (.int .i64 t497)) (fun _ hk => hk.2) (.int .i64 t498)) (fun _ hk => hk.2) (.int .i64 t499)) (fun _ hk => hk.2) (.int .i64 t500)) (fun _ hk => hk.2) (.slice Ao57 t501.length co57)) (fun _ hk => hk.2) (.slice Ao58 t504.length co58)) (fun _ hk => hk.2) (.slice Ao59 t507.length co59)) (fun _ hk => hk.2) (.int .i64 t510)) (fun _ hk => hk.2) (.slice Ao60 t511.length co60)) (fun _ hk => hk.2) (.slice Ao61 t514.length co61)) (fun _ h_ => h_.1))) hb); have n7_ := zA (Kd.R_below (by (with_reducible repeat (first | apply zN | apply zM | apply zO)); exact (zP (Kd.R_far (p := ⟨gb517, 9, none⟩) (Kd.R_far (p := ⟨gb517, 8, none⟩) (Kd.R_far (p := ⟨gb517, 7, none⟩) (Kd.R_far (p := ⟨gb517, 6, none⟩) (Kd.R_far (p := ⟨gb517, 5, none⟩) (Kd.R_far (p := ⟨gb517, 4, none⟩) (Kd.R_far (p := ⟨gb517, 3, none⟩) (Kd.R_far (p := ⟨gb517, 2, none⟩) (Kd.R_far (p := ⟨gb517, 1, none⟩) (Kd.R_far (p := ⟨gb517, 0, none⟩) (zX HO467.out BK517.out (by decide)) (fun _ hk => hk.2) (.int .i64 t497)) (fun _ hk => hk.2) (.int .i64 t498)) (fun _ hk => hk.2) (.int .i64 t499)) (fun _ hk => hk.2) (.int .i64 t500)) (fun _ hk => hk.2) (.slice Ao57 t501.length co57)) (fun _ hk => hk.2) (.slice Ao58 t504.length co58)) (fun _ hk => hk.2) (.slice Ao59 t507.length co59)) (fun _ hk => hk.2) (.int .i64 t510)) (fun _ hk => hk.2) (.slice Ao60 t511.length co60)) (fun _ hk => hk.2) (.slice Ao61 t514.length co61)) (fun _ h_ => h_.1))) hb); have n8_ := zA (Kd.S_below (by (with_reducible repeat (first | apply zY | apply zZ | apply yA)); exact (yB (yC (p := ⟨gb517, 9, none⟩) (yC (p := ⟨gb517, 8, none⟩) (yC (p := ⟨gb517, 7, none⟩) (yC (p := ⟨gb517, 6, none⟩) (yC (p := ⟨gb517, 5, none⟩) (yC (p := ⟨gb517, 4, none⟩) (yC (p := ⟨gb517, 3, none⟩) (yC (p := ⟨gb517, 2, none⟩) (yC (p := ⟨gb517, 1, none⟩) (yC (p := ⟨gb517, 0, none⟩) (Kd.S_types HO471.out BK517.out (by decide)) (fun _ hk => hk.2) (.int .i64 t497)) (fun _ hk => hk.2) (.int .i64 t498)) (fun _ hk => hk.2) (.int .i64 t499)) (fun _ hk => hk.2) (.int .i64 t500)) (fun _ hk => hk.2) (.slice Ao57 t501.length co57)) (fun _ hk => hk.2) (.slice Ao58 t504.length co58)) (fun _ hk => hk.2) (.slice Ao59 t507.length co59)) (fun _ hk => hk.2) (.int .i64 t510)) (fun _ hk => hk.2) (.slice Ao60 t511.length co60)) (fun _ hk => hk.2) (.slice Ao61 t514.length co61)) (fun _ h_ => h_.1))) hb); have n9_ := zA (Kd.R_below (by (with_reducible repeat (first | apply zN | apply zM | apply zO)); exact (zP (Kd.R_far (p := ⟨gb517, 9, none⟩) (Kd.R_far (p := ⟨gb517, 8, none⟩) (Kd.R_far (p := ⟨gb517, 7, none⟩) (Kd.R_far (p := ⟨gb517, 6, none⟩) (Kd.R_far (p := ⟨gb517, 5, none⟩) (Kd.R_far (p := ⟨gb517, 4, none⟩) (Kd.R_far (p := ⟨gb517, 3, none⟩) (Kd.R_far (p := ⟨gb517, 2, none⟩) (Kd.R_far (p := ⟨gb517, 1, none⟩) (Kd.R_far (p := ⟨gb517, 0, none⟩) (zX HO474.out BK517.out (by decide)) (fun _ hk => hk.2) (.int .i64 t497)) (fun _ hk => hk.2) (.int .i64 t498)) (fun _ hk => hk.2) (.int .i64 t499)) (fun _ hk => hk.2) (.int .i64 t500)) (fun _ hk => hk.2) (.slice Ao57 t501.length co57)) (fun _ hk => hk.2) (.slice Ao58 t504.length co58)) (fun _ hk => hk.2) (.slice Ao59 t507.length co59)) (fun _ hk => hk.2) (.int .i64 t510)) (fun _ hk => hk.2) (.slice Ao60 t511.length co60)) (fun _ hk => hk.2) (.slice Ao61 t514.length co61)) (fun _ h_ => h_.1))) hb); have n10_ := zA (Kd.R_below (by (with_reducible repeat (first | apply zN | apply zM | apply zO)); exact (zP (Kd.R_far (p := ⟨gb517, 9, none⟩) (Kd.R_far (p := ⟨gb517, 8, none⟩) (Kd.R_far (p := ⟨gb517, 7, none⟩) (Kd.R_far (p := ⟨gb517, 6, none⟩) (Kd.R_far (p := ⟨gb517, 5, none⟩) (Kd.R_far (p := ⟨gb517, 4, none⟩) (Kd.R_far (p := ⟨gb517, 3, none⟩) (Kd.R_far (p := ⟨gb517, 2, none⟩) (Kd.R_far (p := ⟨gb517, 1, none⟩) (Kd.R_far (p := ⟨gb517, 0, none⟩) (zX HO482.out BK517.out (by decide)) (fun _ hk => hk.2) (.int .i64 t497)) (fun _ hk => hk.2) (.int .i64 t498)) (fun _ hk => hk.2) (.int .i64 t499)) (fun _ hk => hk.2) (.int .i64 t500)) (fun _ hk => hk.2) (.slice Ao57 t501.length co57)) (fun _ hk => hk.2) (.slice Ao58 t504.length co58)) (fun _ hk => hk.2) (.slice Ao59 t507.length co59)) (fun _ hk => hk.2) (.int .i64 t510)) (fun _ hk => hk.2) (.slice Ao60 t511.length co60)) (fun _ hk => hk.2) (.slice Ao61 t514.length co61)) (fun _ h_ => h_.1))) hb); have n11_ := zA (Kd.S_below (by (with_reducible repeat (first | apply zY | apply zZ | apply yA)); exact (yB (yC (p := ⟨gb517, 9, none⟩) (yC (p := ⟨gb517, 8, none⟩) (yC (p := ⟨gb517, 7, none⟩) (yC (p := ⟨gb517, 6, none⟩) (yC (p := ⟨gb517, 5, none⟩) (yC (p := ⟨gb517, 4, none⟩) (yC (p := ⟨gb517, 3, none⟩) (yC (p := ⟨gb517, 2, none⟩) (yC (p := ⟨gb517, 1, none⟩) (yC (p := ⟨gb517, 0, none⟩) (Kd.S_types HO485.out BK517.out (by decide)) (fun _ hk => hk.2) (.int .i64 t497)) (fun _ hk => hk.2) (.int .i64 t498)) (fun _ hk => hk.2) (.int .i64 t499)) (fun _ hk => hk.2) (.int .i64 t500)) (fun _ hk => hk.2) (.slice Ao57 t501.length co57)) (fun _ hk => hk.2) (.slice Ao58 t504.length co58)) (fun _ hk => hk.2) (.slice Ao59 t507.length co59)) (fun _ hk => hk.2) (.int .i64 t510)) (fun _ hk => hk.2) (.slice Ao60 t511.length co60)) (fun _ hk => hk.2) (.slice Ao61 t514.length co61)) (fun _ h_ => h_.1))) hb); have n12_ := zA (Kd.R_below (by (with_reducible repeat (first | apply zN | apply zM | apply zO)); exact (zP (Kd.R_far (p := ⟨gb517, 9, none⟩) (Kd.R_far (p := ⟨gb517, 8, none⟩) (Kd.R_far (p := ⟨gb517, 7, none⟩) (Kd.R_far (p := ⟨gb517, 6, none⟩) (Kd.R_far (p := ⟨gb517, 5, none⟩) (Kd.R_far (p := ⟨gb517, 4, none⟩) (Kd.R_far (p := ⟨gb517, 3, none⟩) (Kd.R_far (p := ⟨gb517, 2, none⟩) (Kd.R_far (p := ⟨gb517, 1, none⟩) (Kd.R_far (p := ⟨gb517, 0, none⟩) (zX HO488.out BK517.out (by decide)) (fun _ hk => hk.2) (.int .i64 t497)) (fun _ hk => hk.2) (.int .i64 t498)) (fun _ hk => hk.2) (.int .i64 t499)) (fun _ hk => hk.2) (.int .i64 t500)) (fun _ hk => hk.2) (.slice Ao57 t501.length co57)) (fun _ hk => hk.2) (.slice Ao58 t504.length co58)) (fun _ hk => hk.2) (.slice Ao59 t507.length co59)) (fun _ hk => hk.2) (.int .i64 t510)) (fun _ hk => hk.2) (.slice Ao60 t511.length co60)) (fun _ hk => hk.2) (.slice Ao61 t514.length co61)) (fun _ h_ => h_.1))) hb); have n13_ := zA (Kd.S_below (by (with_reducible repeat (first | apply zY | apply zZ | apply yA)); exact (yB (yC (p := ⟨gb517, 9, none⟩) (yC (p := ⟨gb517, 8, none⟩) (yC (p := ⟨gb517, 7, none⟩) (yC (p := ⟨gb517, 6, none⟩) (yC (p := ⟨gb517, 5, none⟩) (yC (p := ⟨gb517, 4, none⟩) (yC (p := ⟨gb517, 3, none⟩) (yC (p := ⟨gb517, 2, none⟩) (yC (p := ⟨gb517, 1, none⟩) (yC (p := ⟨gb517, 0, none⟩) (Kd.S_types HO492.out BK517.out (by decide)) (fun _ hk => hk.2) (.int .i64 t497)) (fun _ hk => hk.2) (.int .i64 t498)) (fun _ hk => hk.2) (.int .i64 t499)) (fun _ hk => hk.2) (.int .i64 t500)) (fun _ hk => hk.2) (.slice Ao57 t501.length co57)) (fun _ hk => hk.2) (.slice Ao58 t504.length co58)) (fun _ hk => hk.2) (.slice Ao59 t507.length co59)) (fun _ hk => hk.2) (.int .i64 t510)) (fun _ hk => hk.2) (.slice Ao60 t511.length co60)) (fun _ hk => hk.2) (.slice Ao61 t514.length co61)) (fun _ h_ => h_.1))) hb); have n14_ := zA (Kd.R_below (by (with_reducible repeat (first | apply zN | apply zM | apply zO)); exact (zP (Kd.R_far (p := ⟨gb517, 9, none⟩) (Kd.R_far (p := ⟨gb517, 8, none⟩) (Kd.R_far (p := ⟨gb517, 7, none⟩) (Kd.R_far (p := ⟨gb517, 6, none⟩) (Kd.R_far (p := ⟨gb517, 5, none⟩) (Kd.R_far (p := ⟨gb517, 4, none⟩) (Kd.R_far (p := ⟨gb517, 3, none⟩) (Kd.R_far (p := ⟨gb517, 2, none⟩) (Kd.R_far (p := ⟨gb517, 1, none⟩) (Kd.R_far (p := ⟨gb517, 0, none⟩) (zX HO495.out BK517.out (by decide)) (fun _ hk => hk.2) (.int .i64 t497)) (fun _ hk => hk.2) (.int .i64 t498)) (fun _ hk => hk.2) (.int .i64 t499)) (fun _ hk => hk.2) (.int .i64 t500)) (fun _ hk => hk.2) (.slice Ao57 t501.length co57)) (fun _ hk => hk.2) (.slice Ao58 t504.length co58)) (fun _ hk => hk.2) (.slice Ao59 t507.length co59)) (fun _ hk => hk.2) (.int .i64 t510)) (fun _ hk => hk.2) (.slice Ao60 t511.length co60)) (fun _ hk => hk.2) (.slice Ao61 t514.length co61)) (fun _ h_ => h_.1))) hb); have n15_ := zA (Kd.R_below (by (with_reducible repeat (first | apply zN | apply zM | apply zO)); exact (zP (Kd.R_far (p := ⟨gb517, 9, none⟩) (Kd.R_far (p := ⟨gb517, 8, none⟩) (Kd.R_far (p := ⟨gb517, 7, none⟩) (Kd.R_far (p := ⟨gb517, 6, none⟩) (Kd.R_far (p := ⟨gb517, 5, none⟩) (Kd.R_far (p := ⟨gb517, 4, none⟩) (Kd.R_far (p := ⟨gb517, 3, none⟩) (Kd.R_far (p := ⟨gb517, 2, none⟩) (Kd.R_far (p := ⟨gb517, 1, none⟩) (Kd.R_far (p := ⟨gb517, 0, none⟩) (zX HO503.out BK517.out (by decide)) (fun _ hk => hk.2) (.int .i64 t497)) (fun _ hk => hk.2) (.int .i64 t498)) (fun _ hk => hk.2) (.int .i64 t499)) (fun _ hk => hk.2) (.int .i64 t500)) (fun _ hk => hk.2) (.slice Ao57 t501.length co57)) (fun _ hk => hk.2) (.slice Ao58 t504.length co58)) (fun _ hk => hk.2) (.slice Ao59 t507.length co59)) (fun _ hk => hk.2) (.int .i64 t510)) (fun _ hk => hk.2) (.slice Ao60 t511.length co60)) (fun _ hk => hk.2) (.slice Ao61 t514.length co61)) (fun _ h_ => h_.1))) hb); have n16_ := zA (Kd.S_below (by (with_reducible repeat (first | apply zY | apply zZ | apply yA)); exact (yB (yC (p := ⟨gb517, 9, none⟩) (yC (p := ⟨gb517, 8, none⟩) (yC (p := ⟨gb517, 7, none⟩) (yC (p := ⟨gb517, 6, none⟩) (yC (p := ⟨gb517, 5, none⟩) (yC (p := ⟨gb517, 4, none⟩) (yC (p := ⟨gb517, 3, none⟩) (yC (p := ⟨gb517, 2, none⟩) (yC (p := ⟨gb517, 1, none⟩) (yC (p := ⟨gb517, 0, none⟩) (Kd.S_types HO506.out BK517.out (by decide)) (fun _ hk => hk.2) (.int .i64 t497)) (fun _ hk => hk.2) (.int .i64 t498)) (fun _ hk => hk.2) (.int .i64 t499)) (fun _ hk => hk.2) (.int .i64 t500)) (fun _ hk => hk.2) (.slice Ao57 t501.length co57)) (fun _ hk => hk.2) (.slice Ao58 t504.length co58)) (fun _ hk => hk.2) (.slice Ao59 t507.length co59)) (fun _ hk => hk.2) (.int .i64 t510)) (fun _ hk => hk.2) (.slice Ao60 t511.length co60)) (fun _ hk => hk.2) (.slice Ao61 t514.length co61)) (fun _ h_ => h_.1))) hb); have n17_ := zA (Kd.R_below (by (with_reducible repeat (first | apply zN | apply zM | apply zO)); exact (zP (Kd.R_far (p := ⟨gb517, 9, none⟩) (Kd.R_far (p := ⟨gb517, 8, none⟩) (Kd.R_far (p := ⟨gb517, 7, none⟩) (Kd.R_far (p := ⟨gb517, 6, none⟩) (Kd.R_far (p := ⟨gb517, 5, none⟩) (Kd.R_far (p := ⟨gb517, 4, none⟩) (Kd.R_far (p := ⟨gb517, 3, none⟩) (Kd.R_far (p := ⟨gb517, 2, none⟩) (Kd.R_far (p := ⟨gb517, 1, none⟩) (Kd.R_far (p := ⟨gb517, 0, none⟩) (zX HO509.out BK517.out (by decide)) (fun _ hk => hk.2) (.int .i64 t497)) (fun _ hk => hk.2) (.int .i64 t498)) (fun _ hk => hk.2) (.int .i64 t499)) (fun _ hk => hk.2) (.int .i64 t500)) (fun _ hk => hk.2) (.slice Ao57 t501.length co57)) (fun _ hk => hk.2) (.slice Ao58 t504.length co58)) (fun _ hk => hk.2) (.slice Ao59 t507.length co59)) (fun _ hk => hk.2) (.int .i64 t510)) (fun _ hk => hk.2) (.slice Ao60 t511.length co60)) (fun _ hk => hk.2) (.slice Ao61 t514.length co61)) (fun _ h_ => h_.1))) hb); have n18_ := zA (Kd.S_below (by (with_reducible repeat (first | apply zY | apply zZ | apply yA)); exact (yB (yC (p := ⟨gb517, 9, none⟩) (yC (p := ⟨gb517, 8, none⟩) (yC (p := ⟨gb517, 7, none⟩) (yC (p := ⟨gb517, 6, none⟩) (yC (p := ⟨gb517, 5, none⟩) (yC (p := ⟨gb517, 4, none⟩) (yC (p := ⟨gb517, 3, none⟩) (yC (p := ⟨gb517, 2, none⟩) (yC (p := ⟨gb517, 1, none⟩) (yC (p := ⟨gb517, 0, none⟩) (Kd.S_types HO513.out BK517.out (by decide)) (fun _ hk => hk.2) (.int .i64 t497)) (fun _ hk => hk.2) (.int .i64 t498)) (fun _ hk => hk.2) (.int .i64 t499)) (fun _ hk => hk.2) (.int .i64 t500)) (fun _ hk => hk.2) (.slice Ao57 t501.length co57)) (fun _ hk => hk.2) (.slice Ao58 t504.length co58)) (fun _ hk => hk.2) (.slice Ao59 t507.length co59)) (fun _ hk => hk.2) (.int .i64 t510)) (fun _ hk => hk.2) (.slice Ao60 t511.length co60)) (fun _ hk => hk.2) (.slice Ao61 t514.length co61)) (fun _ h_ => h_.1))) hb); have n19_ := zA (Kd.R_below (by (with_reducible repeat (first | apply zN | apply zM | apply zO)); exact (zP (Kd.R_far (p := ⟨gb517, 9, none⟩) (Kd.R_far (p := ⟨gb517, 8, none⟩) (Kd.R_far (p := ⟨gb517, 7, none⟩) (Kd.R_far (p := ⟨gb517, 6, none⟩) (Kd.R_far (p := ⟨gb517, 5, none⟩) (Kd.R_far (p := ⟨gb517, 4, none⟩) (Kd.R_far (p := ⟨gb517, 3, none⟩) (Kd.R_far (p := ⟨gb517, 2, none⟩) (Kd.R_far (p := ⟨gb517, 1, none⟩) (Kd.R_far (p := ⟨gb517, 0, none⟩) (zX HO516.out BK517.out (by decide)) (fun _ hk => hk.2) (.int .i64 t497)) (fun _ hk => hk.2) (.int .i64 t498)) (fun _ hk => hk.2) (.int .i64 t499)) (fun _ hk => hk.2) (.int .i64 t500)) (fun _ hk => hk.2) (.slice Ao57 t501.length co57)) (fun _ hk => hk.2) (.slice Ao58 t504.length co58)) (fun _ hk => hk.2) (.slice Ao59 t507.length co59)) (fun _ hk => hk.2) (.int .i64 t510)) (fun _ hk => hk.2) (.slice Ao60 t511.length co60)) (fun _ hk => hk.2) (.slice Ao61 t514.length co61)) (fun _ h_ => h_.1))) hb); have n20_ := zA (blk_below (g := gb431) (o := .cells #[.int .i64 a0_0, .int .i64 a0_1, .int .i64 a0_2, .int .i64 a0_3, .slice A0_4 l0_4.length c0_4, .slice A0_5 l0_5.length c0_5, .slice A0_6 l0_6.length c0_6, .int .i64 a0_7, .slice A0_8 l0_8.length c0_8, .slice A0_9 l0_9.length c0_9] 32 (0, 0)) (by (with_reducible repeat (first | refine zG ?_ _ | refine zH ?_ | refine zD ?_ _)); refine blk_far ?_ NB431_517.out _; (with_reducible repeat (first | refine zG ?_ _ | refine zH ?_ | refine zD ?_ _)); refine blk_far ?_ NB431_517.out _; (with_reducible repeat (first | refine zG ?_ _ | refine zH ?_ | refine zD ?_ _)); refine blk_far ?_ NB431_517.out _; (with_reducible repeat (first | refine zG ?_ _ | refine zH ?_ | refine zD ?_ _)); refine blk_far ?_ NB431_517.out _; (with_reducible repeat (first | refine zG ?_ _ | refine zH ?_ | refine zD ?_ _)); refine blk_far ?_ NB431_517.out _; (with_reducible repeat (first | refine zG ?_ _ | refine zH ?_ | refine zD ?_ _)); refine blk_far ?_ NB431_517.out _; (with_reducible repeat (first | refine zG ?_ _ | refine zH ?_ | refine zD ?_ _)); refine blk_far ?_ NB431_517.out _; (with_reducible repeat (first | refine zG ?_ _ | refine zH ?_ | refine zD ?_ _)); refine blk_far ?_ NB431_517.out _; (with_reducible repeat (first | refine zG ?_ _ | refine zH ?_ | refine zD ?_ _)); refine blk_far ?_ NB431_517.out _; (with_reducible repeat (first | refine zG ?_ _ | refine zH ?_ | refine zD ?_ _)); refine blk_far ?_ NB431_517.out _; (with_reducible repeat (first | refine zG ?_ _ | refine zH ?_ | refine zD ?_ _)); exact BK431.out) hb); have n21_ := zA (blk_below (g := gb432) (o := .cells #[.int .i64 a1_0, .int .i64 a1_1, .int .i64 a1_2, .int .i64 a1_3, .slice A1_4 l1_4.length c1_4, .slice A1_5 l1_5.length c1_5, .slice A1_6 l1_6.length c1_6, .int .i64 a1_7, .slice A1_8 l1_8.length c1_8, .slice A1_9 l1_9.length c1_9] 32 (0, 0)) (by (with_reducible repeat (first | refine zG ?_ _ | refine zH ?_ | refine zD ?_ _)); refine blk_far ?_ NB432_517.out _; (with_reducible repeat (first | refine zG ?_ _ | refine zH ?_ | refine zD ?_ _)); refine blk_far ?_ NB432_517.out _; (with_reducible repeat (first | refine zG ?_ _ | refine zH ?_ | refine zD ?_ _)); refine blk_far ?_ NB432_517.out _; (with_reducible repeat (first | refine zG ?_ _ | refine zH ?_ | refine zD ?_ _)); refine blk_far ?_ NB432_517.out _; (with_reducible repeat (first | refine zG ?_ _ | refine zH ?_ | refine zD ?_ _)); refine blk_far ?_ NB432_517.out _; (with_reducible repeat (first | refine zG ?_ _ | refine zH ?_ | refine zD ?_ _)); refine blk_far ?_ NB432_517.out _; (with_reducible repeat (first | refine zG ?_ _ | refine zH ?_ | refine zD ?_ _)); refine blk_far ?_ NB432_517.out _; (with_reducible repeat (first | refine zG ?_ _ | refine zH ?_ | refine zD ?_ _)); refine blk_far ?_ NB432_517.out _; (with_reducible repeat (first | refine zG ?_ _ | refine zH ?_ | refine zD ?_ _)); refine blk_far ?_ NB432_517.out _; (with_reducible repeat (first | refine zG ?_ _ | refine zH ?_ | refine zD ?_ _)); refine blk_far ?_ NB432_517.out _; (with_reducible repeat (first | refine zG ?_ _ | refine zH ?_ | refine zD ?_ _)); exact BK432.out) hb); have n22_ := zA (blk_below (g := gb496) (o := .cells #[.int .i64 t476, .int .i64 t477, .int .i64 t478, .int .i64 t479, .slice Ao45 t480.length co45, .slice Ao46 t483.length co46, .slice Ao47 t486.length co47, .int .i64 t489, .slice Ao48 t490.length co48, .slice Ao49 t493.length co49] 41 (0, 0)) (by (with_reducible repeat (first | refine zG ?_ _ | refine zH ?_ | refine zD ?_ _)); refine blk_far ?_ NB496_517.out _; (with_reducible repeat (first | refine zG ?_ _ | refine zH ?_ | refine zD ?_ _)); refine blk_far ?_ NB496_517.out _; (with_reducible repeat (first | refine zG ?_ _ | refine zH ?_ | refine zD ?_ _)); refine blk_far ?_ NB496_517.out _; (with_reducible repeat (first | refine zG ?_ _ | refine zH ?_ | refine zD ?_ _)); refine blk_far ?_ NB496_517.out _; (with_reducible repeat (first | refine zG ?_ _ | refine zH ?_ | refine zD ?_ _)); refine blk_far ?_ NB496_517.out _; (with_reducible repeat (first | refine zG ?_ _ | refine zH ?_ | refine zD ?_ _)); refine blk_far ?_ NB496_517.out _; (with_reducible repeat (first | refine zG ?_ _ | refine zH ?_ | refine zD ?_ _)); refine blk_far ?_ NB496_517.out _; (with_reducible repeat (first | refine zG ?_ _ | refine zH ?_ | refine zD ?_ _)); refine blk_far ?_ NB496_517.out _; (with_reducible repeat (first | refine zG ?_ _ | refine zH ?_ | refine zD ?_ _)); refine blk_far ?_ NB496_517.out _; (with_reducible repeat (first | refine zG ?_ _ | refine zH ?_ | refine zD ?_ _)); refine blk_far ?_ NB496_517.out _; (with_reducible repeat (first | refine zG ?_ _ | refine zH ?_ | refine zD ?_ _)); exact BK496.out) hb); have n23_ := zA (blk_below (g := gb517) (o := .cells #[.int .i64 t497, .int .i64 t498, .int .i64 t499, .int .i64 t500, .slice Ao57 t501.length co57, .slice Ao58 t504.length co58, .slice Ao59 t507.length co59, .int .i64 t510, .slice Ao60 t511.length co60, .slice Ao61 t514.length co61] 41 (0, 0)) (by (with_reducible repeat (first | refine zG ?_ _ | refine zH ?_ | refine zD ?_ _)); refine blk_put (cs := #[.int .i64 t497, .int .i64 t498, .int .i64 t499, .int .i64 t500, .slice Ao57 t501.length co57, .slice Ao58 t504.length co58, .slice Ao59 t507.length co59, .int .i64 t510, .slice Ao60 t511.length co60, .slice none 0 0]) ?_ 9 _ rfl; (with_reducible repeat (first | refine zG ?_ _ | refine zH ?_ | refine zD ?_ _)); refine blk_put (cs := #[.int .i64 t497, .int .i64 t498, .int .i64 t499, .int .i64 t500, .slice Ao57 t501.length co57, .slice Ao58 t504.length co58, .slice Ao59 t507.length co59, .int .i64 t510, .slice none 0 0, .slice none 0 0]) ?_ 8 _ rfl; (with_reducible repeat (first | refine zG ?_ _ | refine zH ?_ | refine zD ?_ _)); refine blk_put (cs := #[.int .i64 t497, .int .i64 t498, .int .i64 t499, .int .i64 t500, .slice Ao57 t501.length co57, .slice Ao58 t504.length co58, .slice Ao59 t507.length co59, .int .i64 0, .slice none 0 0, .slice none 0 0]) ?_ 7 _ rfl; (with_reducible repeat (first | refine zG ?_ _ | refine zH ?_ | refine zD ?_ _)); refine blk_put (cs := #[.int .i64 t497, .int .i64 t498, .int .i64 t499, .int .i64 t500, .slice Ao57 t501.length co57, .slice Ao58 t504.length co58, .slice none 0 0, .int .i64 0, .slice none 0 0, .slice none 0 0]) ?_ 6 _ rfl; (with_reducible repeat (first | refine zG ?_ _ | refine zH ?_ | refine zD ?_ _)); refine blk_put (cs := #[.int .i64 t497, .int .i64 t498, .int .i64 t499, .int .i64 t500, .slice Ao57 t501.length co57, .slice none 0 0, .slice none 0 0, .int .i64 0, .slice none 0 0, .slice none 0 0]) ?_ 5 _ rfl; (with_reducible repeat (first | refine zG ?_ _ | refine zH ?_ | refine zD ?_ _)); refine blk_put (cs := #[.int .i64 t497, .int .i64 t498, .int .i64 t499, .int .i64 t500, .slice none 0 0, .slice none 0 0, .slice none 0 0, .int .i64 0, .slice none 0 0, .slice none 0 0]) ?_ 4 _ rfl; (with_reducible repeat (first | refine zG ?_ _ | refine zH ?_ | refine zD ?_ _)); refine blk_put (cs := #[.int .i64 t497, .int .i64 t498, .int .i64 t499, .int .i64 0, .slice none 0 0, .slice none 0 0, .slice none 0 0, .int .i64 0, .slice none 0 0, .slice none 0 0]) ?_ 3 _ rfl; (with_reducible repeat (first | refine zG ?_ _ | refine zH ?_ | refine zD ?_ _)); refine blk_put (cs := #[.int .i64 t497, .int .i64 t498, .int .i64 0, .int .i64 0, .slice none 0 0, .slice none 0 0, .slice none 0 0, .int .i64 0, .slice none 0 0, .slice none 0 0]) ?_ 2 _ rfl; (with_reducible repeat (first | refine zG ?_ _ | refine zH ?_ | refine zD ?_ _)); refine blk_put (cs := #[.int .i64 t497, .int .i64 0, .int .i64 0, .int .i64 0, .slice none 0 0, .slice none 0 0, .slice none 0 0, .int .i64 0, .slice none 0 0, .slice none 0 0]) ?_ 1 _ rfl; (with_reducible repeat (first | refine zG ?_ _ | refine zH ?_ | refine zD ?_ _)); refine blk_put (cs := #[.int .i64 0, .int .i64 0, .int .i64 0, .int .i64 0, .slice none 0 0, .slice none 0 0, .slice none 0 0, .int .i64 0, .slice none 0 0, .slice none 0 0]) ?_ 0 _ rfl; (with_reducible repeat (first | refine zG ?_ _ | refine zH ?_ | refine zD ?_ _)); exact BK517.out) hb); have n24_ := zA (below_step (by repeat (first | (with_reducible first | exact HB.out | apply zC | apply zB | apply zF | refine zE ?_ GE431.out | refine zE ?_ GE432.out | refine zE ?_ GE496.out | refine zE ?_ GE517.out) | exact HB.out)) hb); clear HO441; clear HO444; clear HO447; clear HO451; clear HO454; clear HO461; clear HO464; clear HO467; clear HO471; clear HO474; clear HO482; clear HO485; clear HO488; clear HO492; clear HO495; clear HO503; clear HO506; clear HO509; clear HO513; clear HO516; clear BK431; clear BK432; clear BK496; clear BK517; clear HB; have HO441 := n0_; have HO444 := n1_; have HO447 := n2_; have HO451 := n3_; have HO454 := n4_; have HO461 := n5_; have HO464 := n6_; have HO467 := n7_; have HO471 := n8_; have HO474 := n9_; have HO482 := n10_; have HO485 := n11_; have HO488 := n12_; have HO492 := n13_; have HO495 := n14_; have HO503 := n15_; have HO506 := n16_; have HO509 := n17_; have HO513 := n18_; have HO516 := n19_; have BK431 := n20_; have BK432 := n21_; have BK496 := n22_; have BK517 := n23_; have HB := n24_; clear n0_ n1_ n2_ n3_ n4_ n5_ n6_ n7_ n8_ n9_ n10_ n11_ n12_ n13_ n14_ n15_ n16_ n17_ n18_ n19_ n20_ n21_ n22_ n23_ n24_; (try clear hb); (try clear hb2); (try clear hk); (try clear hi)))
   have H := HF23.out
   clear HF23
   by_cases c64 : (t518 != t475) = true
   ·rw [if_pos c64] at H
    exact absurd (Option.some.inj H) Bool.false_ne_true
   ·rw [if_neg c64] at H
    have c64b0 : (t518 != t475) = false := by simpa using c64
    (try (have c64b1 : decide (t518 = t475) = true := by simpa using c64))
    (try (have c64b2 : (t518 == t475) = true := by simpa using c64))
    clear c64
    (first | rw [c64b0] | rw [c64b1] | rw [c64b2] | (simp only [i64_w, i32_w]; first | rw [c64b0] | rw [c64b1]) | skip)
    replace H := Option.bind_eq_some_iff.mp H
    obtain ⟨⟨t519, t520, t521, t522, t523, t526, t529, t532, t533, t536⟩, A650, H⟩ := H
    replace H : ((laws_eqStream.f k t476 t477 t478 t479 t480 t483 t486 t489 t490 t493 t519 t520 t521 t522 t523 t526 t529 t532 t533 t536).bind fun t539 => (if t539 = true then ((laws_toStream.f k a1_0 a1_1 a1_2 a1_3 l1_4 l1_5 l1_6 a1_7 l1_8 l1_9).bind fun bt540 => ((laws_eqStream.f k t497 t498 t499 t500 t501 t504 t507 t510 t511 t514 bt540.1 bt540.2.1 bt540.2.2.1 bt540.2.2.2.1 bt540.2.2.2.2.1 bt540.2.2.2.2.2.1 bt540.2.2.2.2.2.2.1 bt540.2.2.2.2.2.2.2.1 bt540.2.2.2.2.2.2.2.2.1 bt540.2.2.2.2.2.2.2.2.2).bind fun t560 => (if t560 = true then (some true) else (some false)))) else (some false))) = some true := H
    have A65 := zA A650
    clear A650
    replace H := Option.bind_eq_some_iff.mp H
    obtain ⟨t539, A660, H⟩ := H
    replace H : (if t539 = true then ((laws_toStream.f k a1_0 a1_1 a1_2 a1_3 l1_4 l1_5 l1_6 a1_7 l1_8 l1_9).bind fun bt540 => ((laws_eqStream.f k t497 t498 t499 t500 t501 t504 t507 t510 t511 t514 bt540.1 bt540.2.1 bt540.2.2.1 bt540.2.2.2.1 bt540.2.2.2.2.1 bt540.2.2.2.2.2.1 bt540.2.2.2.2.2.2.1 bt540.2.2.2.2.2.2.2.1 bt540.2.2.2.2.2.2.2.2.1 bt540.2.2.2.2.2.2.2.2.2).bind fun t560 => (if t560 = true then (some true) else (some false)))) else (some false)) = some true := H
    have A66 := zA A660
    clear A660
    have HF67 := zA H
    clear H
    try go_wp2
    have n0_ := zA (zO HO441.out)
    have n1_ := zA (yA HO444.out)
    have n2_ := zA (zO HO447.out)
    have n3_ := zA (yA HO451.out)
    have n4_ := zA (zO HO454.out)
    have n5_ := zA (zO HO461.out)
    have n6_ := zA (yA HO464.out)
    have n7_ := zA (zO HO467.out)
    have n8_ := zA (yA HO471.out)
    have n9_ := zA (zO HO474.out)
    have n10_ := zA (zO HO482.out)
    have n11_ := zA (yA HO485.out)
    have n12_ := zA (zO HO488.out)
    have n13_ := zA (yA HO492.out)
    have n14_ := zA (zO HO495.out)
    have n15_ := zA (zO HO503.out)
    have n16_ := zA (yA HO506.out)
    have n17_ := zA (zO HO509.out)
    have n18_ := zA (yA HO513.out)
    have n19_ := zA (zO HO516.out)
    have n20_ := zA (zH BK431.out)
    have n21_ := zA (zH BK432.out)
    have n22_ := zA (zH BK496.out)
    have n23_ := zA (zH BK517.out)
    have n24_ := zA (zF HB.out)
    clear HO441
    clear HO444
    clear HO447
    clear HO451
    clear HO454
    clear HO461
    clear HO464
    clear HO467
    clear HO471
    clear HO474
    clear HO482
    clear HO485
    clear HO488
    clear HO492
    clear HO495
    clear HO503
    clear HO506
    clear HO509
    clear HO513
    clear HO516
    clear BK431
    clear BK432
    clear BK496
    clear BK517
    clear HB
    have HO441 := n0_
    have HO444 := n1_
    have HO447 := n2_
    have HO451 := n3_
    have HO454 := n4_
    have HO461 := n5_
    have HO464 := n6_
    have HO467 := n7_
    have HO471 := n8_
    have HO474 := n9_
    have HO482 := n10_
    have HO485 := n11_
    have HO488 := n12_
    have HO492 := n13_
    have HO495 := n14_
    have HO503 := n15_
    have HO506 := n16_
    have HO509 := n17_
    have HO513 := n18_
    have HO516 := n19_
    have BK431 := n20_
    have BK432 := n21_
    have BK496 := n22_
    have BK517 := n23_
    have HB := n24_
    clear n0_ n1_ n2_ n3_ n4_ n5_ n6_ n7_ n8_ n9_ n10_ n11_ n12_ n13_ n14_ n15_ n16_ n17_ n18_ n19_ n20_ n21_ n22_ n23_ n24_
    refine start_ (n := 5) (S := fun w' => w'.cell? ⟨gb496, 0, none⟩ = some (.int .i64 t476) ∧ w'.cell? ⟨gb496, 1, none⟩ = some (.int .i64 t477) ∧ w'.cell? ⟨gb496, 2, none⟩ = some (.int .i64 t478) ∧ w'.cell? ⟨gb496, 3, none⟩ = some (.int .i64 t479) ∧ w'.cell? ⟨gb496, 4, none⟩ = some (.slice Ao45 t480.length co45) ∧ w'.cell? ⟨gb496, 5, none⟩ = some (.slice Ao46 t483.length co46) ∧ w'.cell? ⟨gb496, 6, none⟩ = some (.slice Ao47 t486.length co47) ∧ w'.cell? ⟨gb496, 7, none⟩ = some (.int .i64 t489) ∧ w'.cell? ⟨gb496, 8, none⟩ = some (.slice Ao48 t490.length co48) ∧ w'.cell? ⟨gb496, 9, none⟩ = some (.slice Ao49 t493.length co49) ∧ w'.cell? ⟨gb431, 0, none⟩ = some (.int .i64 a0_0) ∧ w'.cell? ⟨gb431, 1, none⟩ = some (.int .i64 a0_1) ∧ w'.cell? ⟨gb431, 2, none⟩ = some (.int .i64 a0_2) ∧ w'.cell? ⟨gb431, 3, none⟩ = some (.int .i64 a0_3) ∧ w'.cell? ⟨gb431, 4, none⟩ = some (.slice A0_4 l0_4.length c0_4) ∧ w'.cell? ⟨gb431, 5, none⟩ = some (.slice A0_5 l0_5.length c0_5) ∧ w'.cell? ⟨gb431, 6, none⟩ = some (.slice A0_6 l0_6.length c0_6) ∧ w'.cell? ⟨gb431, 7, none⟩ = some (.int .i64 a0_7) ∧ w'.cell? ⟨gb431, 8, none⟩ = some (.slice A0_8 l0_8.length c0_8) ∧ w'.cell? ⟨gb431, 9, none⟩ = some (.slice A0_9 l0_9.length c0_9)) (ds := []) #[false, false, false, false, false] (by kernel_rfl) rfl rfl ⟨(zK BK496.out 0).trans rfl, (zK BK496.out 1).trans rfl, (zK BK496.out 2).trans rfl, (zK BK496.out 3).trans rfl, (zK BK496.out 4).trans rfl, (zK BK496.out 5).trans rfl, (zK BK496.out 6).trans rfl, (zK BK496.out 7).trans rfl, (zK BK496.out 8).trans rfl, (zK BK496.out 9).trans rfl, (zK BK431.out 0).trans rfl, (zK BK431.out 1).trans rfl, (zK BK431.out 2).trans rfl, (zK BK431.out 3).trans rfl, (zK BK431.out 4).trans rfl, (zK BK431.out 5).trans rfl, (zK BK431.out 6).trans rfl, (zK BK431.out 7).trans rfl, (zK BK431.out 8).trans rfl, (zK BK431.out 9).trans rfl⟩ (fun hHeld => ?_)
    generalize w63.drew = w68 at HO441 HO444 HO447 HO451 HO454 HO461 HO464 HO467 HO471 HO474 HO482 HO485 HO488 HO492 HO495 HO503 HO506 HO509 HO513 HO516 BK431 BK432 BK496 BK517 HB hHeld ⊢
    refine take_ (i := 0) (N := some 35) (v := ?_) (a' := ?_) #[true, false, false, false, false] rfl rfl (by kernel_rfl) (fun _ _ _ h => h) (Or.inl ⟨by rfl, ?_⟩) hHeld ?_ ?_
    rotate_left
    ·rintro w' ⟨s0, s1, s2, s3, s4, s5, s6, s7, s8, s9, s10, s11, s12, s13, s14, s15, s16, s17, s18, s19⟩
     go_simp
     with_reducible rfl
    rotate_left
    ·simp only [Act.put, List.setIfInBounds_toArray, List.set_cons_zero, List.set_cons_succ, i64_w, i32_w]
     rfl
    refine take_ (i := 1) (N := some 36) (v := ?_) (a' := ?_) #[true, true, false, false, false] rfl rfl (by kernel_rfl) (fun _ _ _ h => h) (Or.inl ⟨by rfl, ?_⟩) hHeld ?_ ?_
    rotate_left
    ·rintro w' ⟨s0, s1, s2, s3, s4, s5, s6, s7, s8, s9, s10, s11, s12, s13, s14, s15, s16, s17, s18, s19⟩
     go_simp
     with_reducible rfl
    rotate_left
    ·simp only [Act.put, List.setIfInBounds_toArray, List.set_cons_zero, List.set_cons_succ, i64_w, i32_w]
     rfl
    refine one_ (i := 2) (N := some 37) #[true, true, true, false, false] rfl rfl (by kernel_rfl) (by decide) (fun K hK => ?_)
    refine goes_ Tryz.func6 (by kernel_rfl) rfl #[.agg #[.int .i64 a0_0, .int .i64 a0_1, .int .i64 a0_2, .int .i64 a0_3, .slice A0_4 l0_4.length c0_4, .slice A0_5 l0_5.length c0_5, .slice A0_6 l0_6.length c0_6, .int .i64 a0_7, .slice A0_8 l0_8.length c0_8, .slice A0_9 l0_9.length c0_9]] (by rfl) rfl rfl (by (try simp only [zU, zV, zW]); first | done | rfl | (simp only [zR, zQ]; rfl)) ?_
    with_reducible refine (laws_toStream.calls k a0_0 a0_1 a0_2 a0_3 _ _ l0_4 _ _ l0_5 _ _ l0_6 a0_7 _ _ l0_8 _ _ l0_9 t519 t520 t521 t522 t523 t526 t529 t532 t533 t536 _ ?side1 ?side2 ?side3 ?side4 ?side5 ?side6 ?side7 ?side8 ?side9 ?side10 A65.out).mono ?_
    (case side1 => repeat (first | exact (Kd.C_below HR0_4.out HB.out) | (with_reducible refine yH ?_ _) | (with_reducible refine yF ?_ _) | (with_reducible refine yG ?_)))
    (case side2 => exact HC0_4.out)
    (case side3 => repeat (first | exact (Kd.C_below HR0_5.out HB.out) | (with_reducible refine yH ?_ _) | (with_reducible refine yF ?_ _) | (with_reducible refine yG ?_)))
    (case side4 => exact HC0_5.out)
    (case side5 => repeat (first | exact (Kd.C_below HR0_6.out HB.out) | (with_reducible refine yH ?_ _) | (with_reducible refine yF ?_ _) | (with_reducible refine yG ?_)))
    (case side6 => exact HC0_6.out)
    (case side7 => repeat (first | exact (Kd.C_below HR0_8.out HB.out) | (with_reducible refine yH ?_ _) | (with_reducible refine yF ?_ _) | (with_reducible refine yG ?_)))
    (case side8 => exact HC0_8.out)
    (case side9 => repeat (first | exact (Kd.C_below HR0_9.out HB.out) | (with_reducible refine yH ?_ _) | (with_reducible refine yF ?_ _) | (with_reducible refine yG ?_)))
    (case side10 => exact HC0_9.out)
    rintro e w69 ⟨v524, v527, v530, v534, v537, rfl, ho0, ho1, ho2, ho3, ho4, hb⟩
    refine ⟨_, rfl, ?_⟩
    have n0_ := zA (Kd.R_elder' (by (with_reducible repeat (first | apply zN | apply zM | apply zO)); exact HO441.out) (Kd.R_base ho0) hb)
    have n1_ := zA (Kd.S_elder' (by (with_reducible repeat (first | apply zY | apply zZ | apply yA)); exact HO444.out) (Kd.S_base ho1) hb)
    have n2_ := zA (zP (Kd.R_told (Kd.R_told (Kd.R_old (by (with_reducible repeat (first | apply zN | apply zM | apply zO)); exact HO447.out) hb) (Kd.S_base ho1)) (Kd.R_base ho2)) (fun _ h_ => h_.1))
    have n3_ := zA (Kd.S_elder' (by (with_reducible repeat (first | apply zY | apply zZ | apply yA)); exact HO451.out) (Kd.S_base ho3) hb)
    have n4_ := zA (Kd.R_elder' (by (with_reducible repeat (first | apply zN | apply zM | apply zO)); exact HO454.out) (Kd.R_base ho4) hb)
    have n5_ := zA (Kd.R_elder' (by (with_reducible repeat (first | apply zN | apply zM | apply zO)); exact HO461.out) (Kd.R_base ho0) hb)
    have n6_ := zA (Kd.S_elder' (by (with_reducible repeat (first | apply zY | apply zZ | apply yA)); exact HO464.out) (Kd.S_base ho1) hb)
    have n7_ := zA (zP (Kd.R_told (Kd.R_told (Kd.R_old (by (with_reducible repeat (first | apply zN | apply zM | apply zO)); exact HO467.out) hb) (Kd.S_base ho1)) (Kd.R_base ho2)) (fun _ h_ => h_.1))
    have n8_ := zA (Kd.S_elder' (by (with_reducible repeat (first | apply zY | apply zZ | apply yA)); exact HO471.out) (Kd.S_base ho3) hb)
    have n9_ := zA (Kd.R_elder' (by (with_reducible repeat (first | apply zN | apply zM | apply zO)); exact HO474.out) (Kd.R_base ho4) hb)
    have n10_ := zA (Kd.R_elder' (by (with_reducible repeat (first | apply zN | apply zM | apply zO)); exact HO482.out) (Kd.R_base ho0) hb)
    have n11_ := zA (Kd.S_elder' (by (with_reducible repeat (first | apply zY | apply zZ | apply yA)); exact HO485.out) (Kd.S_base ho1) hb)
    have n12_ := zA (zP (Kd.R_told (Kd.R_told (Kd.R_old (by (with_reducible repeat (first | apply zN | apply zM | apply zO)); exact HO488.out) hb) (Kd.S_base ho1)) (Kd.R_base ho2)) (fun _ h_ => h_.1))
    have n13_ := zA (Kd.S_elder' (by (with_reducible repeat (first | apply zY | apply zZ | apply yA)); exact HO492.out) (Kd.S_base ho3) hb)
    have n14_ := zA (Kd.R_elder' (by (with_reducible repeat (first | apply zN | apply zM | apply zO)); exact HO495.out) (Kd.R_base ho4) hb)
    have n15_ := zA (Kd.R_elder' (by (with_reducible repeat (first | apply zN | apply zM | apply zO)); exact HO503.out) (Kd.R_base ho0) hb)
    have n16_ := zA (Kd.S_elder' (by (with_reducible repeat (first | apply zY | apply zZ | apply yA)); exact HO506.out) (Kd.S_base ho1) hb)
    have n17_ := zA (zP (Kd.R_told (Kd.R_told (Kd.R_old (by (with_reducible repeat (first | apply zN | apply zM | apply zO)); exact HO509.out) hb) (Kd.S_base ho1)) (Kd.R_base ho2)) (fun _ h_ => h_.1))
    have n18_ := zA (Kd.S_elder' (by (with_reducible repeat (first | apply zY | apply zZ | apply yA)); exact HO513.out) (Kd.S_base ho3) hb)
    have n19_ := zA (Kd.R_elder' (by (with_reducible repeat (first | apply zN | apply zM | apply zO)); exact HO516.out) (Kd.R_base ho4) hb)
    have n20_ := zA (Kd.R_lower (Kd.R_new' (Kd.R_new' (Kd.R_new' (Kd.R_new' ho0 (Kd.R_lt (by (with_reducible repeat (first | apply zN | apply zM | apply zO)); exact HO441.out))) (Kd.R_lt (by (with_reducible repeat (first | apply zN | apply zM | apply zO)); exact HO461.out))) (Kd.R_lt (by (with_reducible repeat (first | apply zN | apply zM | apply zO)); exact HO482.out))) (Kd.R_lt (by (with_reducible repeat (first | apply zN | apply zM | apply zO)); exact HO503.out))) (zL (by repeat (first | (with_reducible first | exact HB.out | apply zC | apply zB | apply zF | refine zE ?_ GE431.out | refine zE ?_ GE432.out | refine zE ?_ GE496.out | refine zE ?_ GE517.out) | exact HB.out))))
    have n21_ := zA (Kd.S_lower (Kd.S_new' (Kd.S_new' (Kd.S_new' (Kd.S_new' ho1 (Kd.S_lt (by (with_reducible repeat (first | apply zY | apply zZ | apply yA)); exact HO444.out))) (Kd.S_lt (by (with_reducible repeat (first | apply zY | apply zZ | apply yA)); exact HO464.out))) (Kd.S_lt (by (with_reducible repeat (first | apply zY | apply zZ | apply yA)); exact HO485.out))) (Kd.S_lt (by (with_reducible repeat (first | apply zY | apply zZ | apply yA)); exact HO506.out))) (zL (by repeat (first | (with_reducible first | exact HB.out | apply zC | apply zB | apply zF | refine zE ?_ GE431.out | refine zE ?_ GE432.out | refine zE ?_ GE496.out | refine zE ?_ GE517.out) | exact HB.out))))
    have n22_ := zA (Kd.R_lower (Kd.R_new' (Kd.R_new' (Kd.R_new' (Kd.R_new' (Kd.R_new' (Kd.R_new' (Kd.R_new' (Kd.R_new' ho2 (Kd.S_lt (by (with_reducible repeat (first | apply zY | apply zZ | apply yA)); exact HO444.out))) (Kd.R_lt (by (with_reducible repeat (first | apply zN | apply zM | apply zO)); exact HO447.out))) (Kd.S_lt (by (with_reducible repeat (first | apply zY | apply zZ | apply yA)); exact HO464.out))) (Kd.R_lt (by (with_reducible repeat (first | apply zN | apply zM | apply zO)); exact HO467.out))) (Kd.S_lt (by (with_reducible repeat (first | apply zY | apply zZ | apply yA)); exact HO485.out))) (Kd.R_lt (by (with_reducible repeat (first | apply zN | apply zM | apply zO)); exact HO488.out))) (Kd.S_lt (by (with_reducible repeat (first | apply zY | apply zZ | apply yA)); exact HO506.out))) (Kd.R_lt (by (with_reducible repeat (first | apply zN | apply zM | apply zO)); exact HO509.out))) (zL (by repeat (first | (with_reducible first | exact HB.out | apply zC | apply zB | apply zF | refine zE ?_ GE431.out | refine zE ?_ GE432.out | refine zE ?_ GE496.out | refine zE ?_ GE517.out) | exact HB.out))))
    have n23_ := zA (Kd.S_lower (Kd.S_new' (Kd.S_new' (Kd.S_new' (Kd.S_new' ho3 (Kd.S_lt (by (with_reducible repeat (first | apply zY | apply zZ | apply yA)); exact HO451.out))) (Kd.S_lt (by (with_reducible repeat (first | apply zY | apply zZ | apply yA)); exact HO471.out))) (Kd.S_lt (by (with_reducible repeat (first | apply zY | apply zZ | apply yA)); exact HO492.out))) (Kd.S_lt (by (with_reducible repeat (first | apply zY | apply zZ | apply yA)); exact HO513.out))) (zL (by repeat (first | (with_reducible first | exact HB.out | apply zC | apply zB | apply zF | refine zE ?_ GE431.out | refine zE ?_ GE432.out | refine zE ?_ GE496.out | refine zE ?_ GE517.out) | exact HB.out))))
    have n24_ := zA (Kd.R_lower (Kd.R_new' (Kd.R_new' (Kd.R_new' (Kd.R_new' ho4 (Kd.R_lt (by (with_reducible repeat (first | apply zN | apply zM | apply zO)); exact HO454.out))) (Kd.R_lt (by (with_reducible repeat (first | apply zN | apply zM | apply zO)); exact HO474.out))) (Kd.R_lt (by (with_reducible repeat (first | apply zN | apply zM | apply zO)); exact HO495.out))) (Kd.R_lt (by (with_reducible repeat (first | apply zN | apply zM | apply zO)); exact HO516.out))) (zL (by repeat (first | (with_reducible first | exact HB.out | apply zC | apply zB | apply zF | refine zE ?_ GE431.out | refine zE ?_ GE432.out | refine zE ?_ GE496.out | refine zE ?_ GE517.out) | exact HB.out))))
    have n25_ := zA (blk_below (g := gb431) (o := .cells #[.int .i64 a0_0, .int .i64 a0_1, .int .i64 a0_2, .int .i64 a0_3, .slice A0_4 l0_4.length c0_4, .slice A0_5 l0_5.length c0_5, .slice A0_6 l0_6.length c0_6, .int .i64 a0_7, .slice A0_8 l0_8.length c0_8, .slice A0_9 l0_9.length c0_9] 32 (0, 0)) (by (with_reducible repeat (first | refine zG ?_ _ | refine zH ?_ | refine zD ?_ _)); exact BK431.out) hb)
    have n26_ := zA (blk_below (g := gb432) (o := .cells #[.int .i64 a1_0, .int .i64 a1_1, .int .i64 a1_2, .int .i64 a1_3, .slice A1_4 l1_4.length c1_4, .slice A1_5 l1_5.length c1_5, .slice A1_6 l1_6.length c1_6, .int .i64 a1_7, .slice A1_8 l1_8.length c1_8, .slice A1_9 l1_9.length c1_9] 32 (0, 0)) (by (with_reducible repeat (first | refine zG ?_ _ | refine zH ?_ | refine zD ?_ _)); exact BK432.out) hb)
    have n27_ := zA (blk_below (g := gb496) (o := .cells #[.int .i64 t476, .int .i64 t477, .int .i64 t478, .int .i64 t479, .slice Ao45 t480.length co45, .slice Ao46 t483.length co46, .slice Ao47 t486.length co47, .int .i64 t489, .slice Ao48 t490.length co48, .slice Ao49 t493.length co49] 41 (0, 0)) (by (with_reducible repeat (first | refine zG ?_ _ | refine zH ?_ | refine zD ?_ _)); exact BK496.out) hb)
    have n28_ := zA (blk_below (g := gb517) (o := .cells #[.int .i64 t497, .int .i64 t498, .int .i64 t499, .int .i64 t500, .slice Ao57 t501.length co57, .slice Ao58 t504.length co58, .slice Ao59 t507.length co59, .int .i64 t510, .slice Ao60 t511.length co60, .slice Ao61 t514.length co61] 41 (0, 0)) (by (with_reducible repeat (first | refine zG ?_ _ | refine zH ?_ | refine zD ?_ _)); exact BK517.out) hb)
    have n29_ := zA (below_step (by repeat (first | (with_reducible first | exact HB.out | apply zC | apply zB | apply zF | refine zE ?_ GE431.out | refine zE ?_ GE432.out | refine zE ?_ GE496.out | refine zE ?_ GE517.out) | exact HB.out)) hb)
    clear HO441
    clear HO444
    clear HO447
    clear HO451
    clear HO454
    clear HO461
    clear HO464
    clear HO467
    clear HO471
    clear HO474
    clear HO482
    clear HO485
    clear HO488
    clear HO492
    clear HO495
    clear HO503
    clear HO506
    clear HO509
    clear HO513
    clear HO516
    clear BK431
    clear BK432
    clear BK496
    clear BK517
    clear HB
    have HO441 := n0_
    have HO444 := n1_
    have HO447 := n2_
    have HO451 := n3_
    have HO454 := n4_
    have HO461 := n5_
    have HO464 := n6_
    have HO467 := n7_
    have HO471 := n8_
    have HO474 := n9_
    have HO482 := n10_
    have HO485 := n11_
    have HO488 := n12_
    have HO492 := n13_
    have HO495 := n14_
    have HO503 := n15_
    have HO506 := n16_
    have HO509 := n17_
    have HO513 := n18_
    have HO516 := n19_
    have HO525 := n20_
    have HO528 := n21_
    have HO531 := n22_
    have HO535 := n23_
    have HO538 := n24_
    have BK431 := n25_
    have BK432 := n26_
    have BK496 := n27_
    have BK517 := n28_
    have HB := n29_
    clear n0_ n1_ n2_ n3_ n4_ n5_ n6_ n7_ n8_ n9_ n10_ n11_ n12_ n13_ n14_ n15_ n16_ n17_ n18_ n19_ n20_ n21_ n22_ n23_ n24_ n25_ n26_ n27_ n28_ n29_
    (try clear hb)
    (try clear hb2)
    (try clear hk)
    (try clear hi)
    (try clear ho0)
    (try clear ho1)
    (try clear ho2)
    (try clear ho3)
    (try clear ho4)
    obtain ⟨Ao70, co70, eo70⟩ := Kd.R_slice HO525.out
    (first | subst eo70 | (injection eo70 with f1_ f2_ f3_; have f4_ := f1_.symm; have f5_ := f3_.symm; clear f1_ f2_ f3_; subst f4_; subst f5_))
    obtain ⟨Ao71, co71, eo71⟩ := Kd.S_slice HO528.out
    (first | subst eo71 | (injection eo71 with f1_ f2_ f3_; have f4_ := f1_.symm; have f5_ := f3_.symm; clear f1_ f2_ f3_; subst f4_; subst f5_))
    obtain ⟨Ao72, co72, eo72⟩ := Kd.R_slice HO531.out
    (first | subst eo72 | (injection eo72 with f1_ f2_ f3_; have f4_ := f1_.symm; have f5_ := f3_.symm; clear f1_ f2_ f3_; subst f4_; subst f5_))
    obtain ⟨Ao73, co73, eo73⟩ := Kd.S_slice HO535.out
    (first | subst eo73 | (injection eo73 with f1_ f2_ f3_; have f4_ := f1_.symm; have f5_ := f3_.symm; clear f1_ f2_ f3_; subst f4_; subst f5_))
    obtain ⟨Ao74, co74, eo74⟩ := Kd.R_slice HO538.out
    (first | subst eo74 | (injection eo74 with f1_ f2_ f3_; have f4_ := f1_.symm; have f5_ := f3_.symm; clear f1_ f2_ f3_; subst f4_; subst f5_))
    refine hK.out _ _ ⟨(zK BK496.out 0).trans rfl, (zK BK496.out 1).trans rfl, (zK BK496.out 2).trans rfl, (zK BK496.out 3).trans rfl, (zK BK496.out 4).trans rfl, (zK BK496.out 5).trans rfl, (zK BK496.out 6).trans rfl, (zK BK496.out 7).trans rfl, (zK BK496.out 8).trans rfl, (zK BK496.out 9).trans rfl, (zK BK431.out 0).trans rfl, (zK BK431.out 1).trans rfl, (zK BK431.out 2).trans rfl, (zK BK431.out 3).trans rfl, (zK BK431.out 4).trans rfl, (zK BK431.out 5).trans rfl, (zK BK431.out 6).trans rfl, (zK BK431.out 7).trans rfl, (zK BK431.out 8).trans rfl, (zK BK431.out 9).trans rfl⟩ (fun hHeld => ?_)
    clear hK K
    refine norm_ (a' := ?_) ?_ ?_
    rotate_left
    ·show Act.put _ (some 37) _ = _
     simp only [Act.put, List.setIfInBounds_toArray, List.set_cons_zero, List.set_cons_succ, i64_w, i32_w]
     rfl
    refine one_ (i := 3) (N := some 38) #[true, true, true, true, false] rfl rfl (by kernel_rfl) (by decide) (fun K hK => ?_)
    refine goes_ Tryz.func8 (by kernel_rfl) rfl #[.agg #[.int .i64 t476, .int .i64 t477, .int .i64 t478, .int .i64 t479, .slice Ao45 t480.length co45, .slice Ao46 t483.length co46, .slice Ao47 t486.length co47, .int .i64 t489, .slice Ao48 t490.length co48, .slice Ao49 t493.length co49], .agg #[.int .i64 t519, .int .i64 t520, .int .i64 t521, .int .i64 t522, .slice Ao70 t523.length co70, .slice Ao71 t526.length co71, .slice Ao72 t529.length co72, .int .i64 t532, .slice Ao73 t533.length co73, .slice Ao74 t536.length co74]] (by rfl) rfl rfl (by (try simp only [zU, zV, zW]); first | done | rfl | (simp only [zR, zQ]; rfl)) ?_
    with_reducible refine (laws_eqStream.calls k t476 t477 t478 t479 _ _ t480 _ _ t483 _ _ t486 t489 _ _ t490 _ _ t493 t519 t520 t521 t522 _ _ t523 _ _ t526 _ _ t529 t532 _ _ t533 _ _ t536 t539 _ ?side1 ?side2 ?side3 ?side4 ?side5 ?side6 ?side7 ?side8 ?side9 ?side10 ?side11 ?side12 ?side13 ?side14 ?side15 ?side16 ?side17 ?side18 ?side19 ?side20 A66.out).mono ?_
    (case side1 => repeat (first | exact (yE HO482.out).2.2 | (with_reducible refine yH ?_ _) | (with_reducible refine yF ?_ _) | (with_reducible refine yG ?_)))
    (case side2 => exact (yE HO482.out).2.1)
    (case side3 => repeat (first | exact (Kd.S_reads' HO485.out).2.2 | (with_reducible refine yH ?_ _) | (with_reducible refine yF ?_ _) | (with_reducible refine yG ?_)))
    (case side4 => exact (Kd.S_reads' HO485.out).2.1)
    (case side5 => repeat (first | exact (yE HO488.out).2.2 | (with_reducible refine yH ?_ _) | (with_reducible refine yF ?_ _) | (with_reducible refine yG ?_)))
    (case side6 => exact (yE HO488.out).2.1)
    (case side7 => repeat (first | exact (Kd.S_reads' HO492.out).2.2 | (with_reducible refine yH ?_ _) | (with_reducible refine yF ?_ _) | (with_reducible refine yG ?_)))
    (case side8 => exact (Kd.S_reads' HO492.out).2.1)
    (case side9 => repeat (first | exact (yE HO495.out).2.2 | (with_reducible refine yH ?_ _) | (with_reducible refine yF ?_ _) | (with_reducible refine yG ?_)))
    (case side10 => exact (yE HO495.out).2.1)
    (case side11 => repeat (first | exact (yE HO525.out).2.2 | (with_reducible refine yH ?_ _) | (with_reducible refine yF ?_ _) | (with_reducible refine yG ?_)))
    (case side12 => exact (yE HO525.out).2.1)
    (case side13 => repeat (first | exact (Kd.S_reads' HO528.out).2.2 | (with_reducible refine yH ?_ _) | (with_reducible refine yF ?_ _) | (with_reducible refine yG ?_)))
    (case side14 => exact (Kd.S_reads' HO528.out).2.1)
    (case side15 => repeat (first | exact (yE HO531.out).2.2 | (with_reducible refine yH ?_ _) | (with_reducible refine yF ?_ _) | (with_reducible refine yG ?_)))
    (case side16 => exact (yE HO531.out).2.1)
    (case side17 => repeat (first | exact (Kd.S_reads' HO535.out).2.2 | (with_reducible refine yH ?_ _) | (with_reducible refine yF ?_ _) | (with_reducible refine yG ?_)))
    (case side18 => exact (Kd.S_reads' HO535.out).2.1)
    (case side19 => repeat (first | exact (yE HO538.out).2.2 | (with_reducible refine yH ?_ _) | (with_reducible refine yF ?_ _) | (with_reducible refine yG ?_)))
    (case side20 => exact (yE HO538.out).2.1)
    rintro e w75 ⟨rfl, hb⟩
    refine ⟨_, rfl, ?_⟩
    have n0_ := zA (Kd.R_below (by (with_reducible repeat (first | apply zN | apply zM | apply zO)); exact HO441.out) hb)
    have n1_ := zA (Kd.S_below (by (with_reducible repeat (first | apply zY | apply zZ | apply yA)); exact HO444.out) hb)
    have n2_ := zA (Kd.R_below (by (with_reducible repeat (first | apply zN | apply zM | apply zO)); exact HO447.out) hb)
    have n3_ := zA (Kd.S_below (by (with_reducible repeat (first | apply zY | apply zZ | apply yA)); exact HO451.out) hb)
    have n4_ := zA (Kd.R_below (by (with_reducible repeat (first | apply zN | apply zM | apply zO)); exact HO454.out) hb)
    have n5_ := zA (Kd.R_below (by (with_reducible repeat (first | apply zN | apply zM | apply zO)); exact HO461.out) hb)
    have n6_ := zA (Kd.S_below (by (with_reducible repeat (first | apply zY | apply zZ | apply yA)); exact HO464.out) hb)
    have n7_ := zA (Kd.R_below (by (with_reducible repeat (first | apply zN | apply zM | apply zO)); exact HO467.out) hb)
    have n8_ := zA (Kd.S_below (by (with_reducible repeat (first | apply zY | apply zZ | apply yA)); exact HO471.out) hb)
    have n9_ := zA (Kd.R_below (by (with_reducible repeat (first | apply zN | apply zM | apply zO)); exact HO474.out) hb)
    have n10_ := zA (Kd.R_below (by (with_reducible repeat (first | apply zN | apply zM | apply zO)); exact HO482.out) hb)
    have n11_ := zA (Kd.S_below (by (with_reducible repeat (first | apply zY | apply zZ | apply yA)); exact HO485.out) hb)
    have n12_ := zA (Kd.R_below (by (with_reducible repeat (first | apply zN | apply zM | apply zO)); exact HO488.out) hb)
    have n13_ := zA (Kd.S_below (by (with_reducible repeat (first | apply zY | apply zZ | apply yA)); exact HO492.out) hb)
    have n14_ := zA (Kd.R_below (by (with_reducible repeat (first | apply zN | apply zM | apply zO)); exact HO495.out) hb)
    have n15_ := zA (Kd.R_below (by (with_reducible repeat (first | apply zN | apply zM | apply zO)); exact HO503.out) hb)
    have n16_ := zA (Kd.S_below (by (with_reducible repeat (first | apply zY | apply zZ | apply yA)); exact HO506.out) hb)
    have n17_ := zA (Kd.R_below (by (with_reducible repeat (first | apply zN | apply zM | apply zO)); exact HO509.out) hb)
    have n18_ := zA (Kd.S_below (by (with_reducible repeat (first | apply zY | apply zZ | apply yA)); exact HO513.out) hb)
    have n19_ := zA (Kd.R_below (by (with_reducible repeat (first | apply zN | apply zM | apply zO)); exact HO516.out) hb)
    have n20_ := zA (Kd.R_below (by (with_reducible repeat (first | apply zN | apply zM | apply zO)); exact HO525.out) hb)
    have n21_ := zA (Kd.S_below (by (with_reducible repeat (first | apply zY | apply zZ | apply yA)); exact HO528.out) hb)
    have n22_ := zA (Kd.R_below (by (with_reducible repeat (first | apply zN | apply zM | apply zO)); exact HO531.out) hb)
    have n23_ := zA (Kd.S_below (by (with_reducible repeat (first | apply zY | apply zZ | apply yA)); exact HO535.out) hb)
    have n24_ := zA (Kd.R_below (by (with_reducible repeat (first | apply zN | apply zM | apply zO)); exact HO538.out) hb)
    have n25_ := zA (blk_below (g := gb431) (o := .cells #[.int .i64 a0_0, .int .i64 a0_1, .int .i64 a0_2, .int .i64 a0_3, .slice A0_4 l0_4.length c0_4, .slice A0_5 l0_5.length c0_5, .slice A0_6 l0_6.length c0_6, .int .i64 a0_7, .slice A0_8 l0_8.length c0_8, .slice A0_9 l0_9.length c0_9] 32 (0, 0)) (by (with_reducible repeat (first | refine zG ?_ _ | refine zH ?_ | refine zD ?_ _)); exact BK431.out) hb)
    have n26_ := zA (blk_below (g := gb432) (o := .cells #[.int .i64 a1_0, .int .i64 a1_1, .int .i64 a1_2, .int .i64 a1_3, .slice A1_4 l1_4.length c1_4, .slice A1_5 l1_5.length c1_5, .slice A1_6 l1_6.length c1_6, .int .i64 a1_7, .slice A1_8 l1_8.length c1_8, .slice A1_9 l1_9.length c1_9] 32 (0, 0)) (by (with_reducible repeat (first | refine zG ?_ _ | refine zH ?_ | refine zD ?_ _)); exact BK432.out) hb)
    have n27_ := zA (blk_below (g := gb496) (o := .cells #[.int .i64 t476, .int .i64 t477, .int .i64 t478, .int .i64 t479, .slice Ao45 t480.length co45, .slice Ao46 t483.length co46, .slice Ao47 t486.length co47, .int .i64 t489, .slice Ao48 t490.length co48, .slice Ao49 t493.length co49] 41 (0, 0)) (by (with_reducible repeat (first | refine zG ?_ _ | refine zH ?_ | refine zD ?_ _)); exact BK496.out) hb)
    have n28_ := zA (blk_below (g := gb517) (o := .cells #[.int .i64 t497, .int .i64 t498, .int .i64 t499, .int .i64 t500, .slice Ao57 t501.length co57, .slice Ao58 t504.length co58, .slice Ao59 t507.length co59, .int .i64 t510, .slice Ao60 t511.length co60, .slice Ao61 t514.length co61] 41 (0, 0)) (by (with_reducible repeat (first | refine zG ?_ _ | refine zH ?_ | refine zD ?_ _)); exact BK517.out) hb)
    have n29_ := zA (below_step (by repeat (first | (with_reducible first | exact HB.out | apply zC | apply zB | apply zF | refine zE ?_ GE431.out | refine zE ?_ GE432.out | refine zE ?_ GE496.out | refine zE ?_ GE517.out) | exact HB.out)) hb)
    clear HO441
    clear HO444
    clear HO447
    clear HO451
    clear HO454
    clear HO461
    clear HO464
    clear HO467
    clear HO471
    clear HO474
    clear HO482
    clear HO485
    clear HO488
    clear HO492
    clear HO495
    clear HO503
    clear HO506
    clear HO509
    clear HO513
    clear HO516
    clear HO525
    clear HO528
    clear HO531
    clear HO535
    clear HO538
    clear BK431
    clear BK432
    clear BK496
    clear BK517
    clear HB
    have HO441 := n0_
    have HO444 := n1_
    have HO447 := n2_
    have HO451 := n3_
    have HO454 := n4_
    have HO461 := n5_
    have HO464 := n6_
    have HO467 := n7_
    have HO471 := n8_
    have HO474 := n9_
    have HO482 := n10_
    have HO485 := n11_
    have HO488 := n12_
    have HO492 := n13_
    have HO495 := n14_
    have HO503 := n15_
    have HO506 := n16_
    have HO509 := n17_
    have HO513 := n18_
    have HO516 := n19_
    have HO525 := n20_
    have HO528 := n21_
    have HO531 := n22_
    have HO535 := n23_
    have HO538 := n24_
    have BK431 := n25_
    have BK432 := n26_
    have BK496 := n27_
    have BK517 := n28_
    have HB := n29_
    clear n0_ n1_ n2_ n3_ n4_ n5_ n6_ n7_ n8_ n9_ n10_ n11_ n12_ n13_ n14_ n15_ n16_ n17_ n18_ n19_ n20_ n21_ n22_ n23_ n24_ n25_ n26_ n27_ n28_ n29_
    (try clear hb)
    (try clear hb2)
    (try clear hk)
    (try clear hi)
    refine hK.out _ _ ⟨(zK BK496.out 0).trans rfl, (zK BK496.out 1).trans rfl, (zK BK496.out 2).trans rfl, (zK BK496.out 3).trans rfl, (zK BK496.out 4).trans rfl, (zK BK496.out 5).trans rfl, (zK BK496.out 6).trans rfl, (zK BK496.out 7).trans rfl, (zK BK496.out 8).trans rfl, (zK BK496.out 9).trans rfl, (zK BK431.out 0).trans rfl, (zK BK431.out 1).trans rfl, (zK BK431.out 2).trans rfl, (zK BK431.out 3).trans rfl, (zK BK431.out 4).trans rfl, (zK BK431.out 5).trans rfl, (zK BK431.out 6).trans rfl, (zK BK431.out 7).trans rfl, (zK BK431.out 8).trans rfl, (zK BK431.out 9).trans rfl⟩ (fun hHeld => ?_)
    clear hK K
    refine norm_ (a' := ?_) ?_ ?_
    rotate_left
    ·show Act.put _ (some 38) _ = _
     simp only [Act.put, List.setIfInBounds_toArray, List.set_cons_zero, List.set_cons_succ, i64_w, i32_w]
     rfl
    refine pure_ (i := 4) (N := some 39) (v := ?_) (a' := ?_) #[true, true, true, true, true] rfl rfl (by kernel_rfl) (fun _ _ _ h => h) (Or.inl ⟨by rfl, ?_⟩) ?_ ?_
    rotate_left
    ·intro w'
     go_simp
     with_reducible rfl
    rotate_left
    ·simp only [Act.put, List.setIfInBounds_toArray, List.set_cons_zero, List.set_cons_succ, i64_w, i32_w]
     rfl
    refine done_ (by kernel_rfl) ?_
    go_upto_if 39 with (fail)
    have H := HF67.out
    clear HF67
    by_cases c76 : t539 = true
    ·subst c76
     have H1 : ((laws_toStream.f k a1_0 a1_1 a1_2 a1_3 l1_4 l1_5 l1_6 a1_7 l1_8 l1_9).bind fun bt540 => ((laws_eqStream.f k t497 t498 t499 t500 t501 t504 t507 t510 t511 t514 bt540.1 bt540.2.1 bt540.2.2.1 bt540.2.2.2.1 bt540.2.2.2.2.1 bt540.2.2.2.2.2.1 bt540.2.2.2.2.2.2.1 bt540.2.2.2.2.2.2.2.1 bt540.2.2.2.2.2.2.2.2.1 bt540.2.2.2.2.2.2.2.2.2).bind fun t560 => (if t560 = true then (some true) else (some false)))) = some true := by rw [if_pos rfl] at H; exact H
     clear H
     have H := H1
     clear H1
     replace H := Option.bind_eq_some_iff.mp H
     obtain ⟨⟨t540, t541, t542, t543, t544, t547, t550, t553, t554, t557⟩, A770, H⟩ := H
     replace H : ((laws_eqStream.f k t497 t498 t499 t500 t501 t504 t507 t510 t511 t514 t540 t541 t542 t543 t544 t547 t550 t553 t554 t557).bind fun t560 => (if t560 = true then (some true) else (some false))) = some true := H
     have A77 := zA A770
     clear A770
     replace H := Option.bind_eq_some_iff.mp H
     obtain ⟨t560, A780, H⟩ := H
     replace H : (if t560 = true then (some true) else (some false)) = some true := H
     have A78 := zA A780
     clear A780
     have HF79 := zA H
     clear H
     try go_wp2
     have n0_ := zA (zO HO441.out)
     have n1_ := zA (yA HO444.out)
     have n2_ := zA (zO HO447.out)
     have n3_ := zA (yA HO451.out)
     have n4_ := zA (zO HO454.out)
     have n5_ := zA (zO HO461.out)
     have n6_ := zA (yA HO464.out)
     have n7_ := zA (zO HO467.out)
     have n8_ := zA (yA HO471.out)
     have n9_ := zA (zO HO474.out)
     have n10_ := zA (zO HO482.out)
     have n11_ := zA (yA HO485.out)
     have n12_ := zA (zO HO488.out)
     have n13_ := zA (yA HO492.out)
     have n14_ := zA (zO HO495.out)
     have n15_ := zA (zO HO503.out)
     have n16_ := zA (yA HO506.out)
     have n17_ := zA (zO HO509.out)
     have n18_ := zA (yA HO513.out)
     have n19_ := zA (zO HO516.out)
     have n20_ := zA (zO HO525.out)
     have n21_ := zA (yA HO528.out)
     have n22_ := zA (zO HO531.out)
     have n23_ := zA (yA HO535.out)
     have n24_ := zA (zO HO538.out)
     have n25_ := zA (zH BK431.out)
     have n26_ := zA (zH BK432.out)
     have n27_ := zA (zH BK496.out)
     have n28_ := zA (zH BK517.out)
     have n29_ := zA (zF HB.out)
     clear HO441
     clear HO444
     clear HO447
     clear HO451
     clear HO454
     clear HO461
     clear HO464
     clear HO467
     clear HO471
     clear HO474
     clear HO482
     clear HO485
     clear HO488
     clear HO492
     clear HO495
     clear HO503
     clear HO506
     clear HO509
     clear HO513
     clear HO516
     clear HO525
     clear HO528
     clear HO531
     clear HO535
     clear HO538
     clear BK431
     clear BK432
     clear BK496
     clear BK517
     clear HB
     have HO441 := n0_
     have HO444 := n1_
     have HO447 := n2_
     have HO451 := n3_
     have HO454 := n4_
     have HO461 := n5_
     have HO464 := n6_
     have HO467 := n7_
     have HO471 := n8_
     have HO474 := n9_
     have HO482 := n10_
     have HO485 := n11_
     have HO488 := n12_
     have HO492 := n13_
     have HO495 := n14_
     have HO503 := n15_
     have HO506 := n16_
     have HO509 := n17_
     have HO513 := n18_
     have HO516 := n19_
     have HO525 := n20_
     have HO528 := n21_
     have HO531 := n22_
     have HO535 := n23_
     have HO538 := n24_
     have BK431 := n25_
     have BK432 := n26_
     have BK496 := n27_
     have BK517 := n28_
     have HB := n29_
     clear n0_ n1_ n2_ n3_ n4_ n5_ n6_ n7_ n8_ n9_ n10_ n11_ n12_ n13_ n14_ n15_ n16_ n17_ n18_ n19_ n20_ n21_ n22_ n23_ n24_ n25_ n26_ n27_ n28_ n29_
     refine start_ (n := 5) (S := fun w' => w'.cell? ⟨gb517, 0, none⟩ = some (.int .i64 t497) ∧ w'.cell? ⟨gb517, 1, none⟩ = some (.int .i64 t498) ∧ w'.cell? ⟨gb517, 2, none⟩ = some (.int .i64 t499) ∧ w'.cell? ⟨gb517, 3, none⟩ = some (.int .i64 t500) ∧ w'.cell? ⟨gb517, 4, none⟩ = some (.slice Ao57 t501.length co57) ∧ w'.cell? ⟨gb517, 5, none⟩ = some (.slice Ao58 t504.length co58) ∧ w'.cell? ⟨gb517, 6, none⟩ = some (.slice Ao59 t507.length co59) ∧ w'.cell? ⟨gb517, 7, none⟩ = some (.int .i64 t510) ∧ w'.cell? ⟨gb517, 8, none⟩ = some (.slice Ao60 t511.length co60) ∧ w'.cell? ⟨gb517, 9, none⟩ = some (.slice Ao61 t514.length co61) ∧ w'.cell? ⟨gb432, 0, none⟩ = some (.int .i64 a1_0) ∧ w'.cell? ⟨gb432, 1, none⟩ = some (.int .i64 a1_1) ∧ w'.cell? ⟨gb432, 2, none⟩ = some (.int .i64 a1_2) ∧ w'.cell? ⟨gb432, 3, none⟩ = some (.int .i64 a1_3) ∧ w'.cell? ⟨gb432, 4, none⟩ = some (.slice A1_4 l1_4.length c1_4) ∧ w'.cell? ⟨gb432, 5, none⟩ = some (.slice A1_5 l1_5.length c1_5) ∧ w'.cell? ⟨gb432, 6, none⟩ = some (.slice A1_6 l1_6.length c1_6) ∧ w'.cell? ⟨gb432, 7, none⟩ = some (.int .i64 a1_7) ∧ w'.cell? ⟨gb432, 8, none⟩ = some (.slice A1_8 l1_8.length c1_8) ∧ w'.cell? ⟨gb432, 9, none⟩ = some (.slice A1_9 l1_9.length c1_9)) (ds := []) #[false, false, false, false, false] (by kernel_rfl) rfl rfl ⟨(zK BK517.out 0).trans rfl, (zK BK517.out 1).trans rfl, (zK BK517.out 2).trans rfl, (zK BK517.out 3).trans rfl, (zK BK517.out 4).trans rfl, (zK BK517.out 5).trans rfl, (zK BK517.out 6).trans rfl, (zK BK517.out 7).trans rfl, (zK BK517.out 8).trans rfl, (zK BK517.out 9).trans rfl, (zK BK432.out 0).trans rfl, (zK BK432.out 1).trans rfl, (zK BK432.out 2).trans rfl, (zK BK432.out 3).trans rfl, (zK BK432.out 4).trans rfl, (zK BK432.out 5).trans rfl, (zK BK432.out 6).trans rfl, (zK BK432.out 7).trans rfl, (zK BK432.out 8).trans rfl, (zK BK432.out 9).trans rfl⟩ (fun hHeld => ?_)
     generalize w75.drew = w80 at HO441 HO444 HO447 HO451 HO454 HO461 HO464 HO467 HO471 HO474 HO482 HO485 HO488 HO492 HO495 HO503 HO506 HO509 HO513 HO516 HO525 HO528 HO531 HO535 HO538 BK431 BK432 BK496 BK517 HB hHeld ⊢
     refine take_ (i := 0) (N := some 40) (v := ?_) (a' := ?_) #[true, false, false, false, false] rfl rfl (by kernel_rfl) (fun _ _ _ h => h) (Or.inl ⟨by rfl, ?_⟩) hHeld ?_ ?_
     rotate_left
     ·rintro w' ⟨s0, s1, s2, s3, s4, s5, s6, s7, s8, s9, s10, s11, s12, s13, s14, s15, s16, s17, s18, s19⟩
      go_simp
      with_reducible rfl
     rotate_left
     ·simp only [Act.put, List.setIfInBounds_toArray, List.set_cons_zero, List.set_cons_succ, i64_w, i32_w]
      rfl
     refine take_ (i := 1) (N := some 41) (v := ?_) (a' := ?_) #[true, true, false, false, false] rfl rfl (by kernel_rfl) (fun _ _ _ h => h) (Or.inl ⟨by rfl, ?_⟩) hHeld ?_ ?_
     rotate_left
     ·rintro w' ⟨s0, s1, s2, s3, s4, s5, s6, s7, s8, s9, s10, s11, s12, s13, s14, s15, s16, s17, s18, s19⟩
      go_simp
      with_reducible rfl
     rotate_left
     ·simp only [Act.put, List.setIfInBounds_toArray, List.set_cons_zero, List.set_cons_succ, i64_w, i32_w]
      rfl
     refine one_ (i := 2) (N := some 42) #[true, true, true, false, false] rfl rfl (by kernel_rfl) (by decide) (fun K hK => ?_)
     refine goes_ Tryz.func6 (by kernel_rfl) rfl #[.agg #[.int .i64 a1_0, .int .i64 a1_1, .int .i64 a1_2, .int .i64 a1_3, .slice A1_4 l1_4.length c1_4, .slice A1_5 l1_5.length c1_5, .slice A1_6 l1_6.length c1_6, .int .i64 a1_7, .slice A1_8 l1_8.length c1_8, .slice A1_9 l1_9.length c1_9]] (by rfl) rfl rfl (by (try simp only [zU, zV, zW]); first | done | rfl | (simp only [zR, zQ]; rfl)) ?_
     with_reducible refine (laws_toStream.calls k a1_0 a1_1 a1_2 a1_3 _ _ l1_4 _ _ l1_5 _ _ l1_6 a1_7 _ _ l1_8 _ _ l1_9 t540 t541 t542 t543 t544 t547 t550 t553 t554 t557 _ ?side1 ?side2 ?side3 ?side4 ?side5 ?side6 ?side7 ?side8 ?side9 ?side10 A77.out).mono ?_
     (case side1 => repeat (first | exact (Kd.C_below HR1_4.out HB.out) | (with_reducible refine yH ?_ _) | (with_reducible refine yF ?_ _) | (with_reducible refine yG ?_)))
     (case side2 => exact HC1_4.out)
     (case side3 => repeat (first | exact (Kd.C_below HR1_5.out HB.out) | (with_reducible refine yH ?_ _) | (with_reducible refine yF ?_ _) | (with_reducible refine yG ?_)))
     (case side4 => exact HC1_5.out)
     (case side5 => repeat (first | exact (Kd.C_below HR1_6.out HB.out) | (with_reducible refine yH ?_ _) | (with_reducible refine yF ?_ _) | (with_reducible refine yG ?_)))
     (case side6 => exact HC1_6.out)
     (case side7 => repeat (first | exact (Kd.C_below HR1_8.out HB.out) | (with_reducible refine yH ?_ _) | (with_reducible refine yF ?_ _) | (with_reducible refine yG ?_)))
     (case side8 => exact HC1_8.out)
     (case side9 => repeat (first | exact (Kd.C_below HR1_9.out HB.out) | (with_reducible refine yH ?_ _) | (with_reducible refine yF ?_ _) | (with_reducible refine yG ?_)))
     (case side10 => exact HC1_9.out)
     rintro e w81 ⟨v545, v548, v551, v555, v558, rfl, ho0, ho1, ho2, ho3, ho4, hb⟩
     refine ⟨_, rfl, ?_⟩
     have n0_ := zA (Kd.R_elder' (by (with_reducible repeat (first | apply zN | apply zM | apply zO)); exact HO441.out) (Kd.R_base ho0) hb)
     have n1_ := zA (Kd.S_elder' (by (with_reducible repeat (first | apply zY | apply zZ | apply yA)); exact HO444.out) (Kd.S_base ho1) hb)
     have n2_ := zA (zP (Kd.R_told (Kd.R_told (Kd.R_old (by (with_reducible repeat (first | apply zN | apply zM | apply zO)); exact HO447.out) hb) (Kd.S_base ho1)) (Kd.R_base ho2)) (fun _ h_ => h_.1))
     have n3_ := zA (Kd.S_elder' (by (with_reducible repeat (first | apply zY | apply zZ | apply yA)); exact HO451.out) (Kd.S_base ho3) hb)
     have n4_ := zA (Kd.R_elder' (by (with_reducible repeat (first | apply zN | apply zM | apply zO)); exact HO454.out) (Kd.R_base ho4) hb)
     have n5_ := zA (Kd.R_elder' (by (with_reducible repeat (first | apply zN | apply zM | apply zO)); exact HO461.out) (Kd.R_base ho0) hb)
     have n6_ := zA (Kd.S_elder' (by (with_reducible repeat (first | apply zY | apply zZ | apply yA)); exact HO464.out) (Kd.S_base ho1) hb)
     have n7_ := zA (zP (Kd.R_told (Kd.R_told (Kd.R_old (by (with_reducible repeat (first | apply zN | apply zM | apply zO)); exact HO467.out) hb) (Kd.S_base ho1)) (Kd.R_base ho2)) (fun _ h_ => h_.1))
     have n8_ := zA (Kd.S_elder' (by (with_reducible repeat (first | apply zY | apply zZ | apply yA)); exact HO471.out) (Kd.S_base ho3) hb)
     have n9_ := zA (Kd.R_elder' (by (with_reducible repeat (first | apply zN | apply zM | apply zO)); exact HO474.out) (Kd.R_base ho4) hb)
     have n10_ := zA (Kd.R_elder' (by (with_reducible repeat (first | apply zN | apply zM | apply zO)); exact HO482.out) (Kd.R_base ho0) hb)
     have n11_ := zA (Kd.S_elder' (by (with_reducible repeat (first | apply zY | apply zZ | apply yA)); exact HO485.out) (Kd.S_base ho1) hb)
     have n12_ := zA (zP (Kd.R_told (Kd.R_told (Kd.R_old (by (with_reducible repeat (first | apply zN | apply zM | apply zO)); exact HO488.out) hb) (Kd.S_base ho1)) (Kd.R_base ho2)) (fun _ h_ => h_.1))
     have n13_ := zA (Kd.S_elder' (by (with_reducible repeat (first | apply zY | apply zZ | apply yA)); exact HO492.out) (Kd.S_base ho3) hb)
     have n14_ := zA (Kd.R_elder' (by (with_reducible repeat (first | apply zN | apply zM | apply zO)); exact HO495.out) (Kd.R_base ho4) hb)
     have n15_ := zA (Kd.R_elder' (by (with_reducible repeat (first | apply zN | apply zM | apply zO)); exact HO503.out) (Kd.R_base ho0) hb)
     have n16_ := zA (Kd.S_elder' (by (with_reducible repeat (first | apply zY | apply zZ | apply yA)); exact HO506.out) (Kd.S_base ho1) hb)
     have n17_ := zA (zP (Kd.R_told (Kd.R_told (Kd.R_old (by (with_reducible repeat (first | apply zN | apply zM | apply zO)); exact HO509.out) hb) (Kd.S_base ho1)) (Kd.R_base ho2)) (fun _ h_ => h_.1))
     have n18_ := zA (Kd.S_elder' (by (with_reducible repeat (first | apply zY | apply zZ | apply yA)); exact HO513.out) (Kd.S_base ho3) hb)
     have n19_ := zA (Kd.R_elder' (by (with_reducible repeat (first | apply zN | apply zM | apply zO)); exact HO516.out) (Kd.R_base ho4) hb)
     have n20_ := zA (Kd.R_elder' (by (with_reducible repeat (first | apply zN | apply zM | apply zO)); exact HO525.out) (Kd.R_base ho0) hb)
     have n21_ := zA (Kd.S_elder' (by (with_reducible repeat (first | apply zY | apply zZ | apply yA)); exact HO528.out) (Kd.S_base ho1) hb)
     have n22_ := zA (zP (Kd.R_told (Kd.R_told (Kd.R_old (by (with_reducible repeat (first | apply zN | apply zM | apply zO)); exact HO531.out) hb) (Kd.S_base ho1)) (Kd.R_base ho2)) (fun _ h_ => h_.1))
     have n23_ := zA (Kd.S_elder' (by (with_reducible repeat (first | apply zY | apply zZ | apply yA)); exact HO535.out) (Kd.S_base ho3) hb)
     have n24_ := zA (Kd.R_elder' (by (with_reducible repeat (first | apply zN | apply zM | apply zO)); exact HO538.out) (Kd.R_base ho4) hb)
     have n25_ := zA (Kd.R_lower (Kd.R_new' (Kd.R_new' (Kd.R_new' (Kd.R_new' (Kd.R_new' ho0 (Kd.R_lt (by (with_reducible repeat (first | apply zN | apply zM | apply zO)); exact HO441.out))) (Kd.R_lt (by (with_reducible repeat (first | apply zN | apply zM | apply zO)); exact HO461.out))) (Kd.R_lt (by (with_reducible repeat (first | apply zN | apply zM | apply zO)); exact HO482.out))) (Kd.R_lt (by (with_reducible repeat (first | apply zN | apply zM | apply zO)); exact HO503.out))) (Kd.R_lt (by (with_reducible repeat (first | apply zN | apply zM | apply zO)); exact HO525.out))) (zL (by repeat (first | (with_reducible first | exact HB.out | apply zC | apply zB | apply zF | refine zE ?_ GE431.out | refine zE ?_ GE432.out | refine zE ?_ GE496.out | refine zE ?_ GE517.out) | exact HB.out))))
     have n26_ := zA (Kd.S_lower (Kd.S_new' (Kd.S_new' (Kd.S_new' (Kd.S_new' (Kd.S_new' ho1 (Kd.S_lt (by (with_reducible repeat (first | apply zY | apply zZ | apply yA)); exact HO444.out))) (Kd.S_lt (by (with_reducible repeat (first | apply zY | apply zZ | apply yA)); exact HO464.out))) (Kd.S_lt (by (with_reducible repeat (first | apply zY | apply zZ | apply yA)); exact HO485.out))) (Kd.S_lt (by (with_reducible repeat (first | apply zY | apply zZ | apply yA)); exact HO506.out))) (Kd.S_lt (by (with_reducible repeat (first | apply zY | apply zZ | apply yA)); exact HO528.out))) (zL (by repeat (first | (with_reducible first | exact HB.out | apply zC | apply zB | apply zF | refine zE ?_ GE431.out | refine zE ?_ GE432.out | refine zE ?_ GE496.out | refine zE ?_ GE517.out) | exact HB.out))))
     have n27_ := zA (Kd.R_lower (Kd.R_new' (Kd.R_new' (Kd.R_new' (Kd.R_new' (Kd.R_new' (Kd.R_new' (Kd.R_new' (Kd.R_new' (Kd.R_new' (Kd.R_new' ho2 (Kd.S_lt (by (with_reducible repeat (first | apply zY | apply zZ | apply yA)); exact HO444.out))) (Kd.R_lt (by (with_reducible repeat (first | apply zN | apply zM | apply zO)); exact HO447.out))) (Kd.S_lt (by (with_reducible repeat (first | apply zY | apply zZ | apply yA)); exact HO464.out))) (Kd.R_lt (by (with_reducible repeat (first | apply zN | apply zM | apply zO)); exact HO467.out))) (Kd.S_lt (by (with_reducible repeat (first | apply zY | apply zZ | apply yA)); exact HO485.out))) (Kd.R_lt (by (with_reducible repeat (first | apply zN | apply zM | apply zO)); exact HO488.out))) (Kd.S_lt (by (with_reducible repeat (first | apply zY | apply zZ | apply yA)); exact HO506.out))) (Kd.R_lt (by (with_reducible repeat (first | apply zN | apply zM | apply zO)); exact HO509.out))) (Kd.S_lt (by (with_reducible repeat (first | apply zY | apply zZ | apply yA)); exact HO528.out))) (Kd.R_lt (by (with_reducible repeat (first | apply zN | apply zM | apply zO)); exact HO531.out))) (zL (by repeat (first | (with_reducible first | exact HB.out | apply zC | apply zB | apply zF | refine zE ?_ GE431.out | refine zE ?_ GE432.out | refine zE ?_ GE496.out | refine zE ?_ GE517.out) | exact HB.out))))
     have n28_ := zA (Kd.S_lower (Kd.S_new' (Kd.S_new' (Kd.S_new' (Kd.S_new' (Kd.S_new' ho3 (Kd.S_lt (by (with_reducible repeat (first | apply zY | apply zZ | apply yA)); exact HO451.out))) (Kd.S_lt (by (with_reducible repeat (first | apply zY | apply zZ | apply yA)); exact HO471.out))) (Kd.S_lt (by (with_reducible repeat (first | apply zY | apply zZ | apply yA)); exact HO492.out))) (Kd.S_lt (by (with_reducible repeat (first | apply zY | apply zZ | apply yA)); exact HO513.out))) (Kd.S_lt (by (with_reducible repeat (first | apply zY | apply zZ | apply yA)); exact HO535.out))) (zL (by repeat (first | (with_reducible first | exact HB.out | apply zC | apply zB | apply zF | refine zE ?_ GE431.out | refine zE ?_ GE432.out | refine zE ?_ GE496.out | refine zE ?_ GE517.out) | exact HB.out))))
     have n29_ := zA (Kd.R_lower (Kd.R_new' (Kd.R_new' (Kd.R_new' (Kd.R_new' (Kd.R_new' ho4 (Kd.R_lt (by (with_reducible repeat (first | apply zN | apply zM | apply zO)); exact HO454.out))) (Kd.R_lt (by (with_reducible repeat (first | apply zN | apply zM | apply zO)); exact HO474.out))) (Kd.R_lt (by (with_reducible repeat (first | apply zN | apply zM | apply zO)); exact HO495.out))) (Kd.R_lt (by (with_reducible repeat (first | apply zN | apply zM | apply zO)); exact HO516.out))) (Kd.R_lt (by (with_reducible repeat (first | apply zN | apply zM | apply zO)); exact HO538.out))) (zL (by repeat (first | (with_reducible first | exact HB.out | apply zC | apply zB | apply zF | refine zE ?_ GE431.out | refine zE ?_ GE432.out | refine zE ?_ GE496.out | refine zE ?_ GE517.out) | exact HB.out))))
     have n30_ := zA (blk_below (g := gb431) (o := .cells #[.int .i64 a0_0, .int .i64 a0_1, .int .i64 a0_2, .int .i64 a0_3, .slice A0_4 l0_4.length c0_4, .slice A0_5 l0_5.length c0_5, .slice A0_6 l0_6.length c0_6, .int .i64 a0_7, .slice A0_8 l0_8.length c0_8, .slice A0_9 l0_9.length c0_9] 32 (0, 0)) (by (with_reducible repeat (first | refine zG ?_ _ | refine zH ?_ | refine zD ?_ _)); exact BK431.out) hb)
     have n31_ := zA (blk_below (g := gb432) (o := .cells #[.int .i64 a1_0, .int .i64 a1_1, .int .i64 a1_2, .int .i64 a1_3, .slice A1_4 l1_4.length c1_4, .slice A1_5 l1_5.length c1_5, .slice A1_6 l1_6.length c1_6, .int .i64 a1_7, .slice A1_8 l1_8.length c1_8, .slice A1_9 l1_9.length c1_9] 32 (0, 0)) (by (with_reducible repeat (first | refine zG ?_ _ | refine zH ?_ | refine zD ?_ _)); exact BK432.out) hb)
     have n32_ := zA (blk_below (g := gb496) (o := .cells #[.int .i64 t476, .int .i64 t477, .int .i64 t478, .int .i64 t479, .slice Ao45 t480.length co45, .slice Ao46 t483.length co46, .slice Ao47 t486.length co47, .int .i64 t489, .slice Ao48 t490.length co48, .slice Ao49 t493.length co49] 41 (0, 0)) (by (with_reducible repeat (first | refine zG ?_ _ | refine zH ?_ | refine zD ?_ _)); exact BK496.out) hb)
     have n33_ := zA (blk_below (g := gb517) (o := .cells #[.int .i64 t497, .int .i64 t498, .int .i64 t499, .int .i64 t500, .slice Ao57 t501.length co57, .slice Ao58 t504.length co58, .slice Ao59 t507.length co59, .int .i64 t510, .slice Ao60 t511.length co60, .slice Ao61 t514.length co61] 41 (0, 0)) (by (with_reducible repeat (first | refine zG ?_ _ | refine zH ?_ | refine zD ?_ _)); exact BK517.out) hb)
     have n34_ := zA (below_step (by repeat (first | (with_reducible first | exact HB.out | apply zC | apply zB | apply zF | refine zE ?_ GE431.out | refine zE ?_ GE432.out | refine zE ?_ GE496.out | refine zE ?_ GE517.out) | exact HB.out)) hb)
     clear HO441
     clear HO444
     clear HO447
     clear HO451
     clear HO454
     clear HO461
     clear HO464
     clear HO467
     clear HO471
     clear HO474
     clear HO482
     clear HO485
     clear HO488
     clear HO492
     clear HO495
     clear HO503
     clear HO506
     clear HO509
     clear HO513
     clear HO516
     clear HO525
     clear HO528
     clear HO531
     clear HO535
     clear HO538
     clear BK431
     clear BK432
     clear BK496
     clear BK517
     clear HB
     have HO441 := n0_
     have HO444 := n1_
     have HO447 := n2_
     have HO451 := n3_
     have HO454 := n4_
     have HO461 := n5_
     have HO464 := n6_
     have HO467 := n7_
     have HO471 := n8_
     have HO474 := n9_
     have HO482 := n10_
     have HO485 := n11_
     have HO488 := n12_
     have HO492 := n13_
     have HO495 := n14_
     have HO503 := n15_
     have HO506 := n16_
     have HO509 := n17_
     have HO513 := n18_
     have HO516 := n19_
     have HO525 := n20_
     have HO528 := n21_
     have HO531 := n22_
     have HO535 := n23_
     have HO538 := n24_
     have HO546 := n25_
     have HO549 := n26_
     have HO552 := n27_
     have HO556 := n28_
     have HO559 := n29_
     have BK431 := n30_
     have BK432 := n31_
     have BK496 := n32_
     have BK517 := n33_
     have HB := n34_
     clear n0_ n1_ n2_ n3_ n4_ n5_ n6_ n7_ n8_ n9_ n10_ n11_ n12_ n13_ n14_ n15_ n16_ n17_ n18_ n19_ n20_ n21_ n22_ n23_ n24_ n25_ n26_ n27_ n28_ n29_ n30_ n31_ n32_ n33_ n34_
     (try clear hb)
     (try clear hb2)
     (try clear hk)
     (try clear hi)
     (try clear ho0)
     (try clear ho1)
     (try clear ho2)
     (try clear ho3)
     (try clear ho4)
     obtain ⟨Ao82, co82, eo82⟩ := Kd.R_slice HO546.out
     (first | subst eo82 | (injection eo82 with f1_ f2_ f3_; have f4_ := f1_.symm; have f5_ := f3_.symm; clear f1_ f2_ f3_; subst f4_; subst f5_))
     obtain ⟨Ao83, co83, eo83⟩ := Kd.S_slice HO549.out
     (first | subst eo83 | (injection eo83 with f1_ f2_ f3_; have f4_ := f1_.symm; have f5_ := f3_.symm; clear f1_ f2_ f3_; subst f4_; subst f5_))
     obtain ⟨Ao84, co84, eo84⟩ := Kd.R_slice HO552.out
     (first | subst eo84 | (injection eo84 with f1_ f2_ f3_; have f4_ := f1_.symm; have f5_ := f3_.symm; clear f1_ f2_ f3_; subst f4_; subst f5_))
     obtain ⟨Ao85, co85, eo85⟩ := Kd.S_slice HO556.out
     (first | subst eo85 | (injection eo85 with f1_ f2_ f3_; have f4_ := f1_.symm; have f5_ := f3_.symm; clear f1_ f2_ f3_; subst f4_; subst f5_))
     obtain ⟨Ao86, co86, eo86⟩ := Kd.R_slice HO559.out
     (first | subst eo86 | (injection eo86 with f1_ f2_ f3_; have f4_ := f1_.symm; have f5_ := f3_.symm; clear f1_ f2_ f3_; subst f4_; subst f5_))
     refine hK.out _ _ ⟨(zK BK517.out 0).trans rfl, (zK BK517.out 1).trans rfl, (zK BK517.out 2).trans rfl, (zK BK517.out 3).trans rfl, (zK BK517.out 4).trans rfl, (zK BK517.out 5).trans rfl, (zK BK517.out 6).trans rfl, (zK BK517.out 7).trans rfl, (zK BK517.out 8).trans rfl, (zK BK517.out 9).trans rfl, (zK BK432.out 0).trans rfl, (zK BK432.out 1).trans rfl, (zK BK432.out 2).trans rfl, (zK BK432.out 3).trans rfl, (zK BK432.out 4).trans rfl, (zK BK432.out 5).trans rfl, (zK BK432.out 6).trans rfl, (zK BK432.out 7).trans rfl, (zK BK432.out 8).trans rfl, (zK BK432.out 9).trans rfl⟩ (fun hHeld => ?_)
     clear hK K
     refine norm_ (a' := ?_) ?_ ?_
     rotate_left
     ·show Act.put _ (some 42) _ = _
      simp only [Act.put, List.setIfInBounds_toArray, List.set_cons_zero, List.set_cons_succ, i64_w, i32_w]
      rfl
     refine one_ (i := 3) (N := some 43) #[true, true, true, true, false] rfl rfl (by kernel_rfl) (by decide) (fun K hK => ?_)
     refine goes_ Tryz.func8 (by kernel_rfl) rfl #[.agg #[.int .i64 t497, .int .i64 t498, .int .i64 t499, .int .i64 t500, .slice Ao57 t501.length co57, .slice Ao58 t504.length co58, .slice Ao59 t507.length co59, .int .i64 t510, .slice Ao60 t511.length co60, .slice Ao61 t514.length co61], .agg #[.int .i64 t540, .int .i64 t541, .int .i64 t542, .int .i64 t543, .slice Ao82 t544.length co82, .slice Ao83 t547.length co83, .slice Ao84 t550.length co84, .int .i64 t553, .slice Ao85 t554.length co85, .slice Ao86 t557.length co86]] (by rfl) rfl rfl (by (try simp only [zU, zV, zW]); first | done | rfl | (simp only [zR, zQ]; rfl)) ?_
     with_reducible refine (laws_eqStream.calls k t497 t498 t499 t500 _ _ t501 _ _ t504 _ _ t507 t510 _ _ t511 _ _ t514 t540 t541 t542 t543 _ _ t544 _ _ t547 _ _ t550 t553 _ _ t554 _ _ t557 t560 _ ?side1 ?side2 ?side3 ?side4 ?side5 ?side6 ?side7 ?side8 ?side9 ?side10 ?side11 ?side12 ?side13 ?side14 ?side15 ?side16 ?side17 ?side18 ?side19 ?side20 A78.out).mono ?_
     (case side1 => repeat (first | exact (yE HO503.out).2.2 | (with_reducible refine yH ?_ _) | (with_reducible refine yF ?_ _) | (with_reducible refine yG ?_)))
     (case side2 => exact (yE HO503.out).2.1)
     (case side3 => repeat (first | exact (Kd.S_reads' HO506.out).2.2 | (with_reducible refine yH ?_ _) | (with_reducible refine yF ?_ _) | (with_reducible refine yG ?_)))
     (case side4 => exact (Kd.S_reads' HO506.out).2.1)
     (case side5 => repeat (first | exact (yE HO509.out).2.2 | (with_reducible refine yH ?_ _) | (with_reducible refine yF ?_ _) | (with_reducible refine yG ?_)))
     (case side6 => exact (yE HO509.out).2.1)
     (case side7 => repeat (first | exact (Kd.S_reads' HO513.out).2.2 | (with_reducible refine yH ?_ _) | (with_reducible refine yF ?_ _) | (with_reducible refine yG ?_)))
     (case side8 => exact (Kd.S_reads' HO513.out).2.1)
     (case side9 => repeat (first | exact (yE HO516.out).2.2 | (with_reducible refine yH ?_ _) | (with_reducible refine yF ?_ _) | (with_reducible refine yG ?_)))
     (case side10 => exact (yE HO516.out).2.1)
     (case side11 => repeat (first | exact (yE HO546.out).2.2 | (with_reducible refine yH ?_ _) | (with_reducible refine yF ?_ _) | (with_reducible refine yG ?_)))
     (case side12 => exact (yE HO546.out).2.1)
     (case side13 => repeat (first | exact (Kd.S_reads' HO549.out).2.2 | (with_reducible refine yH ?_ _) | (with_reducible refine yF ?_ _) | (with_reducible refine yG ?_)))
     (case side14 => exact (Kd.S_reads' HO549.out).2.1)
     (case side15 => repeat (first | exact (yE HO552.out).2.2 | (with_reducible refine yH ?_ _) | (with_reducible refine yF ?_ _) | (with_reducible refine yG ?_)))
     (case side16 => exact (yE HO552.out).2.1)
     (case side17 => repeat (first | exact (Kd.S_reads' HO556.out).2.2 | (with_reducible refine yH ?_ _) | (with_reducible refine yF ?_ _) | (with_reducible refine yG ?_)))
     (case side18 => exact (Kd.S_reads' HO556.out).2.1)
     (case side19 => repeat (first | exact (yE HO559.out).2.2 | (with_reducible refine yH ?_ _) | (with_reducible refine yF ?_ _) | (with_reducible refine yG ?_)))
     (case side20 => exact (yE HO559.out).2.1)
     rintro e w87 ⟨rfl, hb⟩
     refine ⟨_, rfl, ?_⟩
     have n0_ := zA (Kd.R_below (by (with_reducible repeat (first | apply zN | apply zM | apply zO)); exact HO441.out) hb)
     have n1_ := zA (Kd.S_below (by (with_reducible repeat (first | apply zY | apply zZ | apply yA)); exact HO444.out) hb)
     have n2_ := zA (Kd.R_below (by (with_reducible repeat (first | apply zN | apply zM | apply zO)); exact HO447.out) hb)
     have n3_ := zA (Kd.S_below (by (with_reducible repeat (first | apply zY | apply zZ | apply yA)); exact HO451.out) hb)
     have n4_ := zA (Kd.R_below (by (with_reducible repeat (first | apply zN | apply zM | apply zO)); exact HO454.out) hb)
     have n5_ := zA (Kd.R_below (by (with_reducible repeat (first | apply zN | apply zM | apply zO)); exact HO461.out) hb)
     have n6_ := zA (Kd.S_below (by (with_reducible repeat (first | apply zY | apply zZ | apply yA)); exact HO464.out) hb)
     have n7_ := zA (Kd.R_below (by (with_reducible repeat (first | apply zN | apply zM | apply zO)); exact HO467.out) hb)
     have n8_ := zA (Kd.S_below (by (with_reducible repeat (first | apply zY | apply zZ | apply yA)); exact HO471.out) hb)
     have n9_ := zA (Kd.R_below (by (with_reducible repeat (first | apply zN | apply zM | apply zO)); exact HO474.out) hb)
     have n10_ := zA (Kd.R_below (by (with_reducible repeat (first | apply zN | apply zM | apply zO)); exact HO482.out) hb)
     have n11_ := zA (Kd.S_below (by (with_reducible repeat (first | apply zY | apply zZ | apply yA)); exact HO485.out) hb)
     have n12_ := zA (Kd.R_below (by (with_reducible repeat (first | apply zN | apply zM | apply zO)); exact HO488.out) hb)
     have n13_ := zA (Kd.S_below (by (with_reducible repeat (first | apply zY | apply zZ | apply yA)); exact HO492.out) hb)
     have n14_ := zA (Kd.R_below (by (with_reducible repeat (first | apply zN | apply zM | apply zO)); exact HO495.out) hb)
     have n15_ := zA (Kd.R_below (by (with_reducible repeat (first | apply zN | apply zM | apply zO)); exact HO503.out) hb)
     have n16_ := zA (Kd.S_below (by (with_reducible repeat (first | apply zY | apply zZ | apply yA)); exact HO506.out) hb)
     have n17_ := zA (Kd.R_below (by (with_reducible repeat (first | apply zN | apply zM | apply zO)); exact HO509.out) hb)
     have n18_ := zA (Kd.S_below (by (with_reducible repeat (first | apply zY | apply zZ | apply yA)); exact HO513.out) hb)
     have n19_ := zA (Kd.R_below (by (with_reducible repeat (first | apply zN | apply zM | apply zO)); exact HO516.out) hb)
     have n20_ := zA (Kd.R_below (by (with_reducible repeat (first | apply zN | apply zM | apply zO)); exact HO525.out) hb)
     have n21_ := zA (Kd.S_below (by (with_reducible repeat (first | apply zY | apply zZ | apply yA)); exact HO528.out) hb)
     have n22_ := zA (Kd.R_below (by (with_reducible repeat (first | apply zN | apply zM | apply zO)); exact HO531.out) hb)
     have n23_ := zA (Kd.S_below (by (with_reducible repeat (first | apply zY | apply zZ | apply yA)); exact HO535.out) hb)
     have n24_ := zA (Kd.R_below (by (with_reducible repeat (first | apply zN | apply zM | apply zO)); exact HO538.out) hb)
     have n25_ := zA (Kd.R_below (by (with_reducible repeat (first | apply zN | apply zM | apply zO)); exact HO546.out) hb)
     have n26_ := zA (Kd.S_below (by (with_reducible repeat (first | apply zY | apply zZ | apply yA)); exact HO549.out) hb)
     have n27_ := zA (Kd.R_below (by (with_reducible repeat (first | apply zN | apply zM | apply zO)); exact HO552.out) hb)
     have n28_ := zA (Kd.S_below (by (with_reducible repeat (first | apply zY | apply zZ | apply yA)); exact HO556.out) hb)
     have n29_ := zA (Kd.R_below (by (with_reducible repeat (first | apply zN | apply zM | apply zO)); exact HO559.out) hb)
     have n30_ := zA (blk_below (g := gb431) (o := .cells #[.int .i64 a0_0, .int .i64 a0_1, .int .i64 a0_2, .int .i64 a0_3, .slice A0_4 l0_4.length c0_4, .slice A0_5 l0_5.length c0_5, .slice A0_6 l0_6.length c0_6, .int .i64 a0_7, .slice A0_8 l0_8.length c0_8, .slice A0_9 l0_9.length c0_9] 32 (0, 0)) (by (with_reducible repeat (first | refine zG ?_ _ | refine zH ?_ | refine zD ?_ _)); exact BK431.out) hb)
     have n31_ := zA (blk_below (g := gb432) (o := .cells #[.int .i64 a1_0, .int .i64 a1_1, .int .i64 a1_2, .int .i64 a1_3, .slice A1_4 l1_4.length c1_4, .slice A1_5 l1_5.length c1_5, .slice A1_6 l1_6.length c1_6, .int .i64 a1_7, .slice A1_8 l1_8.length c1_8, .slice A1_9 l1_9.length c1_9] 32 (0, 0)) (by (with_reducible repeat (first | refine zG ?_ _ | refine zH ?_ | refine zD ?_ _)); exact BK432.out) hb)
     have n32_ := zA (blk_below (g := gb496) (o := .cells #[.int .i64 t476, .int .i64 t477, .int .i64 t478, .int .i64 t479, .slice Ao45 t480.length co45, .slice Ao46 t483.length co46, .slice Ao47 t486.length co47, .int .i64 t489, .slice Ao48 t490.length co48, .slice Ao49 t493.length co49] 41 (0, 0)) (by (with_reducible repeat (first | refine zG ?_ _ | refine zH ?_ | refine zD ?_ _)); exact BK496.out) hb)
     have n33_ := zA (blk_below (g := gb517) (o := .cells #[.int .i64 t497, .int .i64 t498, .int .i64 t499, .int .i64 t500, .slice Ao57 t501.length co57, .slice Ao58 t504.length co58, .slice Ao59 t507.length co59, .int .i64 t510, .slice Ao60 t511.length co60, .slice Ao61 t514.length co61] 41 (0, 0)) (by (with_reducible repeat (first | refine zG ?_ _ | refine zH ?_ | refine zD ?_ _)); exact BK517.out) hb)
     have n34_ := zA (below_step (by repeat (first | (with_reducible first | exact HB.out | apply zC | apply zB | apply zF | refine zE ?_ GE431.out | refine zE ?_ GE432.out | refine zE ?_ GE496.out | refine zE ?_ GE517.out) | exact HB.out)) hb)
     clear HO441
     clear HO444
     clear HO447
     clear HO451
     clear HO454
     clear HO461
     clear HO464
     clear HO467
     clear HO471
     clear HO474
     clear HO482
     clear HO485
     clear HO488
     clear HO492
     clear HO495
     clear HO503
     clear HO506
     clear HO509
     clear HO513
     clear HO516
     clear HO525
     clear HO528
     clear HO531
     clear HO535
     clear HO538
     clear HO546
     clear HO549
     clear HO552
     clear HO556
     clear HO559
     clear BK431
     clear BK432
     clear BK496
     clear BK517
     clear HB
     have HO441 := n0_
     have HO444 := n1_
     have HO447 := n2_
     have HO451 := n3_
     have HO454 := n4_
     have HO461 := n5_
     have HO464 := n6_
     have HO467 := n7_
     have HO471 := n8_
     have HO474 := n9_
     have HO482 := n10_
     have HO485 := n11_
     have HO488 := n12_
     have HO492 := n13_
     have HO495 := n14_
     have HO503 := n15_
     have HO506 := n16_
     have HO509 := n17_
     have HO513 := n18_
     have HO516 := n19_
     have HO525 := n20_
     have HO528 := n21_
     have HO531 := n22_
     have HO535 := n23_
     have HO538 := n24_
     have HO546 := n25_
     have HO549 := n26_
     have HO552 := n27_
     have HO556 := n28_
     have HO559 := n29_
     have BK431 := n30_
     have BK432 := n31_
     have BK496 := n32_
     have BK517 := n33_
     have HB := n34_
     clear n0_ n1_ n2_ n3_ n4_ n5_ n6_ n7_ n8_ n9_ n10_ n11_ n12_ n13_ n14_ n15_ n16_ n17_ n18_ n19_ n20_ n21_ n22_ n23_ n24_ n25_ n26_ n27_ n28_ n29_ n30_ n31_ n32_ n33_ n34_
     (try clear hb)
     (try clear hb2)
     (try clear hk)
     (try clear hi)
     refine hK.out _ _ ⟨(zK BK517.out 0).trans rfl, (zK BK517.out 1).trans rfl, (zK BK517.out 2).trans rfl, (zK BK517.out 3).trans rfl, (zK BK517.out 4).trans rfl, (zK BK517.out 5).trans rfl, (zK BK517.out 6).trans rfl, (zK BK517.out 7).trans rfl, (zK BK517.out 8).trans rfl, (zK BK517.out 9).trans rfl, (zK BK432.out 0).trans rfl, (zK BK432.out 1).trans rfl, (zK BK432.out 2).trans rfl, (zK BK432.out 3).trans rfl, (zK BK432.out 4).trans rfl, (zK BK432.out 5).trans rfl, (zK BK432.out 6).trans rfl, (zK BK432.out 7).trans rfl, (zK BK432.out 8).trans rfl, (zK BK432.out 9).trans rfl⟩ (fun hHeld => ?_)
     clear hK K
     refine norm_ (a' := ?_) ?_ ?_
     rotate_left
     ·show Act.put _ (some 43) _ = _
      simp only [Act.put, List.setIfInBounds_toArray, List.set_cons_zero, List.set_cons_succ, i64_w, i32_w]
      rfl
     refine pure_ (i := 4) (N := some 44) (v := ?_) (a' := ?_) #[true, true, true, true, true] rfl rfl (by kernel_rfl) (fun _ _ _ h => h) (Or.inl ⟨by rfl, ?_⟩) ?_ ?_
     rotate_left
     ·intro w'
      go_simp
      with_reducible rfl
     rotate_left
     ·simp only [Act.put, List.setIfInBounds_toArray, List.set_cons_zero, List.set_cons_succ, i64_w, i32_w]
      rfl
     refine done_ (by kernel_rfl) ?_
     go_upto_if 44 with (fail)
     have H := HF79.out
     clear HF79
     by_cases c88 : t560 = true
     ·subst c88
      have H1 : (some true) = some true := rfl
      clear H
      have H := H1
      clear H1
      go_wp2
      go_ret
      exact ⟨by first | rfl | (simp [errW_none, errW_some] <;> rfl) | (simp [*, errW_none, errW_some] <;> rfl), by repeat (first | (with_reducible first | exact HB.out | apply zC | apply zB | apply zF | refine zE ?_ GE431.out | refine zE ?_ GE432.out | refine zE ?_ GE496.out | refine zE ?_ GE517.out) | exact HB.out)⟩
     ·replace c88 := Bool.eq_false_iff.mpr c88
      subst c88
      have H1 : (some false) = some true := by rw [if_neg (show ¬ (false = true) by decide)] at H; exact H
      clear H
      have H := H1
      clear H1
      exact absurd (Option.some.inj H) Bool.false_ne_true
    ·replace c76 := Bool.eq_false_iff.mpr c76
     subst c76
     have H1 : (some false) = some true := by rw [if_neg (show ¬ (false = true) by decide)] at H; exact H
     clear H
     have H := H1
     clear H1
     exact absurd (Option.some.inj H) Bool.false_ne_true
end Go.Proofs.YtilimpjcdeeaiaaGreat.G


namespace Go.Proofs.YtilimpjcdeeaiaaGreat.G
open Go.RowKit Go.Proofs.YtilimpjcdeeaiaaGreatW.PrintWords Go.Proofs.YtilimpjcdeeaiaaGreatW.PrintLast Go.Proofs.YtilimpjcdeeaiaaGreatW.PrintMore
attribute [local go_sem] max2_int min2_int max_two min_two max_three min_three max_four min_four   -- for this text's walks alone
theorem toStream_ev (p w h r : Int) (l : List S95) (tb : List (List Int)) (pl : List (List (List Int))) (md : Int) (sc : List S70) (nt : List Int) (z : szOk l tb pl sc nt) :
  Ev (fun k => laws_toStream.f k p w h r l tb pl md sc nt) (p, w, h, r, l.map toCP, tb, pl, md, sc.map toSN, nt) := by
 obtain ⟨z1, z2, z3, z4, z5⟩ := z
 unfold laws_toStream.f
 refine Ev.bind (a := (p, w, h, r, l.map toCP)) ?_ ?_
 ·unfold laws_toFrame.f
  exact Ev.bind (laws_toCompS.ev l z1) (Ev.now _)
 refine Ev.bind (Ev.c (laws_toIntSS.val tb z2.1 z2.2)) ?_
 refine Ev.bind (Ev.c (r := pl) ?_) ?_
 ·unfold laws_toCoefs.f
  rw [laws_toIntSSS.val pl z3.1 z3.2]; rfl
 exact Ev.bind (Ev.c (laws_toScanS.val sc z4.1 z4.2)) (Ev.bind (laws_toByteS.E nt z5) (Ev.now _))
theorem eqStream_ev (p w h r : Int) (l : List S53) (tb : List (List Int)) (pl : List (List (List Int))) (md : Int) (sc : List S79) (nt : List Int) (z1 : l.length ≤ 1048576) (z2 : tb.length ≤ 1048576 ∧ ∀ x ∈ tb, x.length ≤ 1048576) (z3 : pl.length ≤ 1048576 ∧ ∀ x ∈ pl, x.length ≤ 1048576 ∧ ∀ y ∈ x, y.length ≤ 1048576) (z4 : sc.length ≤ 1048576 ∧ ∀ x ∈ sc, x.f0.length ≤ 1048576) (z5 : nt.length ≤ 1048576) :
  Ev (fun k => laws_eqStream.f k p w h r l tb pl md sc nt p w h r l tb pl md sc nt) true := by
 unfold laws_eqStream.f
 refine Ev.bind (a := true) ?_ (Ev.ip rfl ?_)
 ·unfold laws_eqFrame.f
  exact Ev.ip rfl (Ev.ip rfl (Ev.ip rfl (Ev.ip rfl (Ev.bind (laws_eqCompS.T l z1) (Ev.ip rfl (Ev.now _))))))
 refine Ev.bind (laws_eqIntSS.T tb z2.1 z2.2) (Ev.ip rfl ?_)
 refine Ev.bind (a := true) ?_ (Ev.ip rfl ?_)
 ·unfold laws_eqCoefs.f
  exact Ev.bind (laws_eqIntSSS.T pl z3.1 z3.2) (Ev.ip rfl (Ev.now _))
 exact Ev.ip rfl (Ev.bind (laws_eqScanS.same sc z4.1 z4.2) (Ev.ip rfl (Ev.bind (laws_eqByteS.T nt z5) (Ev.ip rfl (Ev.now _)))))
theorem le8 {n : Nat} (h : n ≤ 1048576) : n ≤ 100000000 := by omega
theorem le2 {n : Nat} (h : n ≤ 1048576) : n ≤ 2000000 := by omega
theorem map_toSN (sc : List S70) (n : Nat) (h : sc.length ≤ n ∧ ∀ x ∈ sc, x.f0.length ≤ n) : (sc.map toSN).length ≤ n ∧ ∀ x ∈ sc.map toSN, x.f0.length ≤ n := by
 refine ⟨by rw [List.length_map]; exact h.1, fun x hx => ?_⟩
 obtain ⟨y, hy, rfl⟩ := List.mem_map.1 hx
 exact h.2 y hy
theorem PureFnExactSameStream : ∀ (p w h r : Int) (l : List S95) (tb : List (List Int)) (pl : List (List (List Int))) (md : Int) (sc : List S70) (nt : List Int) (p' w' h' r' : Int) (l' : List S95) (tb' : List (List Int)) (pl' : List (List (List Int))) (md' : Int) (sc' : List S70) (nt' : List Int), szBig l tb pl sc nt → szBig l' tb' pl' sc' nt' →
  ∃ k, laws_FnExactSameStream.f k p w h r l tb pl md sc nt p' w' h' r' l' tb' pl' md' sc' nt' = some true := by
 intro p w h r l tb pl md sc nt p' w' h' r' l' tb' pl' md' sc' nt' hb hb'
 refine Ev.rounds ?_
 obtain ⟨z, e, u, v⟩ := laws_szStream.ev p w h r l tb pl md sc nt 1048576 (by omega) (by omega) hb
 unfold laws_FnExactSameStream.f
 refine Ev.bind e ?_
 by_cases hn : z < 0
 ·exact Ev.ip hn (Ev.now _)
 refine Ev.ng hn ?_
 obtain ⟨z', e', u', v'⟩ := laws_szStream.ev p' w' h' r' l' tb' pl' md' sc' nt' z (by omega) (by omega) hb'
 refine Ev.bind e' ?_
 by_cases hn' : z' < 0
 ·exact Ev.ip hn' (Ev.now _)
 refine Ev.ng hn' ?_
 have o := v (by omega)
 have o' := v' (by omega)
 have t := toStream_ev p w h r l tb pl md sc nt o
 have t' := toStream_ev p' w' h' r' l' tb' pl' md' sc' nt' o'
 obtain ⟨o1, o2, o3, o4, o5⟩ := o
 obtain ⟨o1', o2', o3', o4', o5'⟩ := o'
 have m := map_toSN sc _ o4
 have m' := map_toSN sc' _ o4'
 refine Ev.bind t (Ev.bind t' (Ev.bind (spec_SameStream.ev p w h r (l.map toCP) tb pl md (sc.map toSN) nt p' w' h' r' (l'.map toCP) tb' pl' md' (sc'.map toSN) nt' o2 o3 o5 m.1 m.2 o3'.1 m'.1 m'.2) ?_))
 refine Ev.bind t (Ev.bind t' (Ev.bind (Ev.c (r := sameM p w h r (l.map toCP) tb pl md (sc.map toSN) nt p' w' h' r' (l'.map toCP) tb' pl' md' (sc'.map toSN) nt') ?_) ?_))
 ·unfold impl_SameStream.f
  exact if_pos ⟨⟨by rw [List.length_map]; exact le8 o1, ⟨le8 o2.1, fun x hx => le8 (o2.2 x hx)⟩, ⟨le8 o3.1, fun x hx => ⟨le8 (o3.2 x hx).1, fun y hy => le8 ((o3.2 x hx).2 y hy)⟩⟩, ⟨le2 m.1, fun s hs => le2 (m.2 s hs)⟩, le8 o5⟩, ⟨by rw [List.length_map]; exact le8 o1', ⟨le8 o2'.1, fun x hx => le8 (o2'.2 x hx)⟩, ⟨le8 o3'.1, fun x hx => ⟨le8 (o3'.2 x hx).1, fun y hy => le8 ((o3'.2 x hx).2 y hy)⟩⟩, ⟨le2 m'.1, fun s hs => le2 (m'.2 s hs)⟩, le8 o5'⟩⟩
 refine Ev.ng (by simp) ?_
 refine Ev.bind t (Ev.bind (eqStream_ev p w h r (l.map toCP) tb pl md (sc.map toSN) nt (by rw [List.length_map]; exact o1) o2 o3 m o5) (Ev.ip rfl ?_))
 exact Ev.bind t' (Ev.bind (eqStream_ev p' w' h' r' (l'.map toCP) tb' pl' md' (sc'.map toSN) nt' (by rw [List.length_map]; exact o1') o2' o3' m' o5') (Ev.ip rfl (Ev.now _)))
end Go.Proofs.YtilimpjcdeeaiaaGreat.G


namespace Go.Proofs.YtilimpjcdeeaiaaGreat.G
open Go.RowKit Go.Proofs.YtilimpjcdeeaiaaGreatW.PrintWords Go.Proofs.YtilimpjcdeeaiaaGreatW.PrintLast Go.Proofs.YtilimpjcdeeaiaaGreatW.PrintMore
attribute [local go_sem] max2_int min2_int max_two min_two max_three min_three max_four min_four   -- for this text's walks alone
--import Derived.Deep.Slices
--import Derived.ChangeArms
/-- type t reads as kind d, with values that are wf -/
def Opens {α : Type} (P : Program) (t : TypeId) (d : Kd α) (wf : α → Prop) : Prop :=
 P.cellsOf t = d.sz ∧ ∀ {H : Type} {enc : TypeId × Value → H} {w : World} {base fuel : Nat} {cs : List Value} {x : DataW H × List MemPlace}, DataW.trod enc P w base (fun _ => true) true fuel t cs = some x → ∃ a, d.K w a cs ∧ wf a
theorem opens_int {P : Program} {t : TypeId} {k : IntKind} (hc : P.cellsOf t = 1) (ht : P.underlying t = some (.int k)) : Opens P t (Kd.int k) (fun n => (Lit.int k n).wf = true) :=
 ⟨hc, fun h => by
  obtain ⟨n, rfl, _, hw⟩ := DataW.trod_int ht h
  exact ⟨n, rfl, hw⟩⟩
theorem opens_slice {α : Type} {P : Program} {t e : TypeId} {d : Kd α} {wf : α → Prop} (hc : P.cellsOf t = 1) (ht : P.underlying t = some (.slice e)) (h0 : Opens P e d wf) : Opens P t (Kd.slice e d) (fun l => l.length ≤ 9223372036854775807 ∧ ∀ x ∈ l, wf x) :=
 ⟨hc, fun {H enc w base fuel cs x} h => by
  rcases Go.Deep.open_slice ht h with ⟨rfl, _⟩ | ⟨a, len, cap, m, n, D, Pl, rfl, hb, hl, hm, hmm, rfl, hx⟩
  ·exact ⟨[], ⟨none, 0, rfl, Nat.le_refl _, rfl, by simp, fun h => absurd h (by simp)⟩, by simp, by simp⟩
  ·simp only [if_true] at hmm
   subst hmm
   have build : ∀ n, n ≤ len → ∃ l : List α, l.length = n ∧ (∀ j p, l[j]? = some p → ∃ c, c.length = d.sz ∧ d.K w p c ∧ ∀ i u, c[i]? = some u → w.cell? (a.add (j * d.sz + i)) = some u) ∧ ∀ x ∈ l, wf x := by
    intro n
    induction n with
    | zero => exact fun _ => ⟨[], rfl, by simp, by simp⟩
    | succ n ih =>
     intro hn
     obtain ⟨l, hl1, hl2, hl3⟩ := ih (by omega)
     obtain ⟨cs', h1, h2⟩ := hx n (by omega)
     obtain ⟨b, hk, hw⟩ := h0.2 h2
     obtain ⟨_, hcl, hcell⟩ := World.cells?_some h1
     rw [h0.1] at hcl hcell
     refine ⟨l ++ [b], by simp [hl1], fun j p hj => ?_, fun x hx => ?_⟩
     ·rcases Nat.lt_or_ge j l.length with hlt | hge
      ·rw [List.getElem?_append_left hlt] at hj
       exact hl2 j p hj
      ·obtain rfl : j = l.length := by
        have := (List.getElem?_eq_some_iff.1 hj).1
        simp at this; omega
       obtain rfl : b = p := by simpa using hj
       refine ⟨cs', hcl, hk, fun i u hu => ?_⟩
       have hi : i < d.sz := by rw [← hcl]; exact (List.getElem?_eq_some_iff.1 hu).1
       have := hcell i hi
       rw [Go.Deep.add_add] at this
       rw [hl1, this, hu]
     ·rcases List.mem_append.1 hx with hx | hx
      ·exact hl3 x hx
      ·rw [List.mem_singleton.1 hx]; exact hw
   obtain ⟨l, hl1, hl2, hl3⟩ := build len (Nat.le_refl _)
   subst hl1
   have hm' : m ≤ 9223372036854775807 := hm
   exact ⟨l, ⟨some a, m, rfl, hl, rfl, by omega, fun _ => ⟨a, rfl, hl2⟩⟩, by omega, hl3⟩⟩
end Go.Proofs.YtilimpjcdeeaiaaGreat.G


namespace Go.Proofs.YtilimpjcdeeaiaaGreat.fnExactSameStream
open Go.ChangeShapes Go.WideShapes Go.ChangeAt Go.RowKit Go.Proofs.YtilimpjcdeeaiaaGreat.G Go.Proofs.YtilimpjcdeeaiaaGreatW.PrintWords
open Go.ChangeMaps (open_string shut_string)
theorem own : ownKnob Tryz.prog.godebug = none := by kernel_rfl
theorem laidOut : laidOutB Tryz.prog = true := by kernel_rfl
set_option maxRecDepth 100000 in
theorem opens_comp : Opens Tryz.prog 95 k95 (fun _ => True) := by
 refine ⟨by kernel_rfl, fun {H enc w base fuel cs x} h => ?_⟩
 obtain ⟨xs, n, _, _, hl, hlen, hf⟩ := DataW.trod_struct Tryz.underlying95 h
 have e : Tryz.prog.cellsOf 95 = 4 := by kernel_rfl
 have z0 : Tryz.prog.cellsOf 3 = 1 := by kernel_rfl
 rw [e] at hl
 have hlen : xs.length = 4 := hlen
 match cs, hl, xs, hlen with
 | [c0, c1, c2, c3], _, [y0, y1, y2, y3], _ =>
  have h0 : DataW.trod enc Tryz.prog w base (fun _ => true) true n 3 (([c0, c1, c2, c3].drop 0).take (Tryz.prog.cellsOf 3)) = some y0 := hf 0 _ rfl
  rw [z0] at h0
  obtain ⟨a0, ha0, _⟩ := (opens_int (by kernel_rfl) Tryz.underlying3).2 (x := y0) h0
  have h1 : DataW.trod enc Tryz.prog w base (fun _ => true) true n 3 (([c0, c1, c2, c3].drop 1).take (Tryz.prog.cellsOf 3)) = some y1 := hf 1 _ rfl
  rw [z0] at h1
  obtain ⟨a1, ha1, _⟩ := (opens_int (by kernel_rfl) Tryz.underlying3).2 (x := y1) h1
  have h2 : DataW.trod enc Tryz.prog w base (fun _ => true) true n 3 (([c0, c1, c2, c3].drop 2).take (Tryz.prog.cellsOf 3)) = some y2 := hf 2 _ rfl
  rw [z0] at h2
  obtain ⟨a2, ha2, _⟩ := (opens_int (by kernel_rfl) Tryz.underlying3).2 (x := y2) h2
  have h3 : DataW.trod enc Tryz.prog w base (fun _ => true) true n 3 (([c0, c1, c2, c3].drop 3).take (Tryz.prog.cellsOf 3)) = some y3 := hf 3 _ rfl
  rw [z0] at h3
  obtain ⟨a3, ha3, _⟩ := (opens_int (by kernel_rfl) Tryz.underlying3).2 (x := y3) h3
  have g0 : [c0] = [Value.int .i64 a0] := ha0
  clear ha0
  injection g0 with e0 _
  subst e0
  have g1 : [c1] = [Value.int .i64 a1] := ha1
  clear ha1
  injection g1 with e1 _
  subst e1
  have g2 : [c2] = [Value.int .i64 a2] := ha2
  clear ha2
  injection g2 with e2 _
  subst e2
  have g3 : [c3] = [Value.int .i64 a3] := ha3
  clear ha3
  injection g3 with e3 _
  subst e3
  exact ⟨⟨a0, a1, a2, a3⟩, k95_mk w ⟨a0, a1, a2, a3⟩, trivial⟩
set_option maxRecDepth 100000 in
theorem opens_scan : Opens Tryz.prog 70 k70 (fun s => s.f0.length ≤ 9223372036854775807) := by
 refine ⟨by kernel_rfl, fun {H enc w base fuel cs x} h => ?_⟩
 obtain ⟨xs, n, _, _, hl, hlen, hf⟩ := DataW.trod_struct Tryz.underlying70 h
 have e : Tryz.prog.cellsOf 70 = 5 := by kernel_rfl
 have z0 : Tryz.prog.cellsOf 66 = 1 := by kernel_rfl
 have z1 : Tryz.prog.cellsOf 3 = 1 := by kernel_rfl
 rw [e] at hl
 have hlen : xs.length = 5 := hlen
 match cs, hl, xs, hlen with
 | [c0, c1, c2, c3, c4], _, [y0, y1, y2, y3, y4], _ =>
  have h0 : DataW.trod enc Tryz.prog w base (fun _ => true) true n 66 (([c0, c1, c2, c3, c4].drop 0).take (Tryz.prog.cellsOf 66)) = some y0 := hf 0 _ rfl
  rw [z0] at h0
  obtain ⟨l0, ⟨A0, k0, ha0, hl0, hC0⟩, hw0⟩ := (opens_slice (by kernel_rfl) Tryz.underlying66 (opens_int (by kernel_rfl) Tryz.underlying3)).2 (x := y0) h0
  have h1 : DataW.trod enc Tryz.prog w base (fun _ => true) true n 3 (([c0, c1, c2, c3, c4].drop 1).take (Tryz.prog.cellsOf 3)) = some y1 := hf 1 _ rfl
  rw [z1] at h1
  obtain ⟨a1, ha1, _⟩ := (opens_int (by kernel_rfl) Tryz.underlying3).2 (x := y1) h1
  have h2 : DataW.trod enc Tryz.prog w base (fun _ => true) true n 3 (([c0, c1, c2, c3, c4].drop 2).take (Tryz.prog.cellsOf 3)) = some y2 := hf 2 _ rfl
  rw [z1] at h2
  obtain ⟨a2, ha2, _⟩ := (opens_int (by kernel_rfl) Tryz.underlying3).2 (x := y2) h2
  have h3 : DataW.trod enc Tryz.prog w base (fun _ => true) true n 3 (([c0, c1, c2, c3, c4].drop 3).take (Tryz.prog.cellsOf 3)) = some y3 := hf 3 _ rfl
  rw [z1] at h3
  obtain ⟨a3, ha3, _⟩ := (opens_int (by kernel_rfl) Tryz.underlying3).2 (x := y3) h3
  have h4 : DataW.trod enc Tryz.prog w base (fun _ => true) true n 3 (([c0, c1, c2, c3, c4].drop 4).take (Tryz.prog.cellsOf 3)) = some y4 := hf 4 _ rfl
  rw [z1] at h4
  obtain ⟨a4, ha4, _⟩ := (opens_int (by kernel_rfl) Tryz.underlying3).2 (x := y4) h4
  have g0 : [c0] = [Value.slice A0 l0.length k0] := ha0
  clear ha0
  injection g0 with e0 _
  subst e0
  have g1 : [c1] = [Value.int .i64 a1] := ha1
  clear ha1
  injection g1 with e1 _
  subst e1
  have g2 : [c2] = [Value.int .i64 a2] := ha2
  clear ha2
  injection g2 with e2 _
  subst e2
  have g3 : [c3] = [Value.int .i64 a3] := ha3
  clear ha3
  injection g3 with e3 _
  subst e3
  have g4 : [c4] = [Value.int .i64 a4] := ha4
  clear ha4
  injection g4 with e4 _
  subst e4
  exact ⟨⟨l0, a1, a2, a3, a4⟩, k70_mk w ⟨l0, a1, a2, a3, a4⟩ hl0 hC0, hw0.1⟩
set_option maxRecDepth 100000 in
theorem open_frame {H : Type} {enc : TypeId × Value → H} {w : World} {base fuel : Nat} {cs : List Value} {x : DataW H × List MemPlace} (h : DataW.trod enc Tryz.prog w base (fun _ => true) true fuel 24 cs = some x) :
  ∃ (a0 a1 a2 a3 : Int) (A4 : Option Addr) (k4 : Nat) (l4 : List S95), cs = [.int .i64 a0, .int .i64 a1, .int .i64 a2, .int .i64 a3, .slice A4 l4.length k4] ∧ l4.length ≤ k4 ∧ Kd.C k95 w A4 l4.length l4 ∧ l4.length ≤ 9223372036854775807 := by
 obtain ⟨xs, n, _, _, hl, hlen, hf⟩ := DataW.trod_struct Tryz.underlying24 h
 have e : Tryz.prog.cellsOf 24 = 5 := by kernel_rfl
 have z0 : Tryz.prog.cellsOf 3 = 1 := by kernel_rfl
 have z1 : Tryz.prog.cellsOf 22 = 1 := by kernel_rfl
 rw [e] at hl
 have hlen : xs.length = 5 := hlen
 match cs, hl, xs, hlen with
 | [c0, c1, c2, c3, c4], _, [y0, y1, y2, y3, y4], _ =>
  have h0 : DataW.trod enc Tryz.prog w base (fun _ => true) true n 3 (([c0, c1, c2, c3, c4].drop 0).take (Tryz.prog.cellsOf 3)) = some y0 := hf 0 _ rfl
  rw [z0] at h0
  obtain ⟨a0, ha0, _⟩ := (opens_int (by kernel_rfl) Tryz.underlying3).2 (x := y0) h0
  have h1 : DataW.trod enc Tryz.prog w base (fun _ => true) true n 3 (([c0, c1, c2, c3, c4].drop 1).take (Tryz.prog.cellsOf 3)) = some y1 := hf 1 _ rfl
  rw [z0] at h1
  obtain ⟨a1, ha1, _⟩ := (opens_int (by kernel_rfl) Tryz.underlying3).2 (x := y1) h1
  have h2 : DataW.trod enc Tryz.prog w base (fun _ => true) true n 3 (([c0, c1, c2, c3, c4].drop 2).take (Tryz.prog.cellsOf 3)) = some y2 := hf 2 _ rfl
  rw [z0] at h2
  obtain ⟨a2, ha2, _⟩ := (opens_int (by kernel_rfl) Tryz.underlying3).2 (x := y2) h2
  have h3 : DataW.trod enc Tryz.prog w base (fun _ => true) true n 3 (([c0, c1, c2, c3, c4].drop 3).take (Tryz.prog.cellsOf 3)) = some y3 := hf 3 _ rfl
  rw [z0] at h3
  obtain ⟨a3, ha3, _⟩ := (opens_int (by kernel_rfl) Tryz.underlying3).2 (x := y3) h3
  have h4 : DataW.trod enc Tryz.prog w base (fun _ => true) true n 22 (([c0, c1, c2, c3, c4].drop 4).take (Tryz.prog.cellsOf 22)) = some y4 := hf 4 _ rfl
  rw [z1] at h4
  obtain ⟨l4, ⟨A4, k4, ha4, hl4, hC4⟩, hw4⟩ := (opens_slice (by kernel_rfl) Tryz.underlying22 opens_comp).2 (x := y4) h4
  have g0 : [c0] = [Value.int .i64 a0] := ha0
  clear ha0
  injection g0 with e0 _
  subst e0
  have g1 : [c1] = [Value.int .i64 a1] := ha1
  clear ha1
  injection g1 with e1 _
  subst e1
  have g2 : [c2] = [Value.int .i64 a2] := ha2
  clear ha2
  injection g2 with e2 _
  subst e2
  have g3 : [c3] = [Value.int .i64 a3] := ha3
  clear ha3
  injection g3 with e3 _
  subst e3
  have g4 : [c4] = [Value.slice A4 l4.length k4] := ha4
  clear ha4
  injection g4 with e4 _
  subst e4
  exact ⟨a0, a1, a2, a3, A4, k4, l4, rfl, hl4, hC4, hw4.1⟩
set_option maxRecDepth 100000 in
theorem open_coefs {H : Type} {enc : TypeId × Value → H} {w : World} {base fuel : Nat} {cs : List Value} {x : DataW H × List MemPlace} (h : DataW.trod enc Tryz.prog w base (fun _ => true) true fuel 28 cs = some x) :
  ∃ (A0 : Option Addr) (k0 : Nat) (l0 : List (List (List Int))), cs = [.slice A0 l0.length k0] ∧ l0.length ≤ k0 ∧ Kd.C (Kd.slice 66 (Kd.slice 3 (Kd.int .i64))) w A0 l0.length l0 ∧ (l0.length ≤ 9223372036854775807 ∧ ∀ x ∈ l0, x.length ≤ 9223372036854775807 ∧ ∀ y ∈ x, y.length ≤ 9223372036854775807) := by
 obtain ⟨xs, n, _, _, hl, hlen, hf⟩ := DataW.trod_struct Tryz.underlying28 h
 have e : Tryz.prog.cellsOf 28 = 1 := by kernel_rfl
 have z0 : Tryz.prog.cellsOf 26 = 1 := by kernel_rfl
 rw [e] at hl
 have hlen : xs.length = 1 := hlen
 match cs, hl, xs, hlen with
 | [c0], _, [y0], _ =>
  have h0 : DataW.trod enc Tryz.prog w base (fun _ => true) true n 26 (([c0].drop 0).take (Tryz.prog.cellsOf 26)) = some y0 := hf 0 _ rfl
  rw [z0] at h0
  obtain ⟨l0, ⟨A0, k0, ha0, hl0, hC0⟩, hw0⟩ := (opens_slice (by kernel_rfl) Tryz.underlying26 (opens_slice (by kernel_rfl) Tryz.underlying25 (opens_slice (by kernel_rfl) Tryz.underlying66 (opens_int (by kernel_rfl) Tryz.underlying3)))).2 (x := y0) h0
  have g0 : [c0] = [Value.slice A0 l0.length k0] := ha0
  clear ha0
  injection g0 with e0 _
  subst e0
  exact ⟨A0, k0, l0, rfl, hl0, hC0, ⟨hw0.1, fun x hx => ⟨(hw0.2 x hx).1, fun y hy => ((hw0.2 x hx).2 y hy).1⟩⟩⟩
set_option maxRecDepth 100000 in
theorem open_stream {H : Type} {enc : TypeId × Value → H} {w : World} {base fuel : Nat} {cs : List Value} {x : DataW H × List MemPlace} (h : DataW.trod enc Tryz.prog w base (fun _ => true) true fuel 32 cs = some x) :
  ∃ (p_ w_ h_ r_ : Int) (A_4 : Option Addr) (c_4 : Nat) (l_4 : List S95) (A_5 : Option Addr) (c_5 : Nat) (l_5 : List (List Int)) (A_6 : Option Addr) (c_6 : Nat) (l_6 : List (List (List Int))) (m_ : Int) (A_8 : Option Addr) (c_8 : Nat) (l_8 : List S70) (A_9 : Option Addr) (c_9 : Nat) (l_9 : List Int) , cs = [.int .i64 p_, .int .i64 w_, .int .i64 h_, .int .i64 r_, .slice A_4 l_4.length c_4, .slice A_5 l_5.length c_5, .slice A_6 l_6.length c_6, .int .i64 m_, .slice A_8 l_8.length c_8, .slice A_9 l_9.length c_9] ∧ (l_4.length ≤ c_4 ∧ Kd.C k95 w A_4 l_4.length l_4) ∧ (l_5.length ≤ c_5 ∧ Kd.C (Kd.slice 3 (Kd.int .i64)) w A_5 l_5.length l_5) ∧ (l_6.length ≤ c_6 ∧ Kd.C (Kd.slice 66 (Kd.slice 3 (Kd.int .i64))) w A_6 l_6.length l_6) ∧ (l_8.length ≤ c_8 ∧ Kd.C k70 w A_8 l_8.length l_8) ∧ (l_9.length ≤ c_9 ∧ Kd.C (Kd.int .u8) w A_9 l_9.length l_9) ∧ szBig l_4 l_5 l_6 l_8 l_9 := by
 obtain ⟨xs, n, _, _, hl, hlen, hf⟩ := DataW.trod_struct Tryz.underlying32 h
 have e : Tryz.prog.cellsOf 32 = 10 := by kernel_rfl
 have z0 : Tryz.prog.cellsOf 24 = 5 := by kernel_rfl
 have z1 : Tryz.prog.cellsOf 25 = 1 := by kernel_rfl
 have z2 : Tryz.prog.cellsOf 28 = 1 := by kernel_rfl
 have z3 : Tryz.prog.cellsOf 3 = 1 := by kernel_rfl
 have z4 : Tryz.prog.cellsOf 29 = 1 := by kernel_rfl
 have z5 : Tryz.prog.cellsOf 30 = 1 := by kernel_rfl
 rw [e] at hl
 have hlen : xs.length = 6 := hlen
 match cs, hl, xs, hlen with
 | [c0, c1, c2, c3, c4, c5, c6, c7, c8, c9], _, [y0, y1, y2, y3, y4, y5], _ =>
  have h0 : DataW.trod enc Tryz.prog w base (fun _ => true) true n 24 (([c0, c1, c2, c3, c4, c5, c6, c7, c8, c9].drop 0).take (Tryz.prog.cellsOf 24)) = some y0 := hf 0 _ rfl
  rw [z0] at h0
  obtain ⟨p_, w_, h_, r_, A_4, c_4, l_4, he0, hl4, hC4, hw4⟩ := open_frame h0
  have h1 : DataW.trod enc Tryz.prog w base (fun _ => true) true n 25 (([c0, c1, c2, c3, c4, c5, c6, c7, c8, c9].drop 5).take (Tryz.prog.cellsOf 25)) = some y1 := hf 1 _ rfl
  rw [z1] at h1
  obtain ⟨l1, ⟨A1, k1, ha1, hl1, hC1⟩, hw1⟩ := (opens_slice (by kernel_rfl) Tryz.underlying25 (opens_slice (by kernel_rfl) Tryz.underlying66 (opens_int (by kernel_rfl) Tryz.underlying3))).2 (x := y1) h1
  have h2 : DataW.trod enc Tryz.prog w base (fun _ => true) true n 28 (([c0, c1, c2, c3, c4, c5, c6, c7, c8, c9].drop 6).take (Tryz.prog.cellsOf 28)) = some y2 := hf 2 _ rfl
  rw [z2] at h2
  obtain ⟨A_6, c_6, l_6, he2, hl6, hC6, hw6⟩ := open_coefs h2
  have h3 : DataW.trod enc Tryz.prog w base (fun _ => true) true n 3 (([c0, c1, c2, c3, c4, c5, c6, c7, c8, c9].drop 7).take (Tryz.prog.cellsOf 3)) = some y3 := hf 3 _ rfl
  rw [z3] at h3
  obtain ⟨a3, ha3, _⟩ := (opens_int (by kernel_rfl) Tryz.underlying3).2 (x := y3) h3
  have h4 : DataW.trod enc Tryz.prog w base (fun _ => true) true n 29 (([c0, c1, c2, c3, c4, c5, c6, c7, c8, c9].drop 8).take (Tryz.prog.cellsOf 29)) = some y4 := hf 4 _ rfl
  rw [z4] at h4
  obtain ⟨l4, ⟨A4, k4, ha4, hl4_, hC4_⟩, hw4_⟩ := (opens_slice (by kernel_rfl) Tryz.underlying29 opens_scan).2 (x := y4) h4
  have h5 : DataW.trod enc Tryz.prog w base (fun _ => true) true n 30 (([c0, c1, c2, c3, c4, c5, c6, c7, c8, c9].drop 9).take (Tryz.prog.cellsOf 30)) = some y5 := hf 5 _ rfl
  rw [z5] at h5
  obtain ⟨l5, ⟨A5, k5, ha5, hl5, hC5⟩, hw5⟩ := (opens_slice (by kernel_rfl) Tryz.underlying30 (opens_int (by kernel_rfl) Tryz.underlying5)).2 (x := y5) h5
  have g0 : [c0, c1, c2, c3, c4] = [.int .i64 p_, .int .i64 w_, .int .i64 h_, .int .i64 r_, .slice A_4 l_4.length c_4] := he0
  clear he0
  injection g0 with e0 g1
  injection g1 with e1 g2
  injection g2 with e2 g3
  injection g3 with e3 g4
  injection g4 with e4 _
  subst e0
  subst e1
  subst e2
  subst e3
  subst e4
  have g5 : [c5] = [Value.slice A1 l1.length k1] := ha1
  clear ha1
  injection g5 with e5 _
  subst e5
  have g6 : [c6] = [.slice A_6 l_6.length c_6] := he2
  clear he2
  injection g6 with e6 _
  subst e6
  have g7 : [c7] = [Value.int .i64 a3] := ha3
  clear ha3
  injection g7 with e7 _
  subst e7
  have g8 : [c8] = [Value.slice A4 l4.length k4] := ha4
  clear ha4
  injection g8 with e8 _
  subst e8
  have g9 : [c9] = [Value.slice A5 l5.length k5] := ha5
  clear ha5
  injection g9 with e9 _
  subst e9
  exact ⟨p_, w_, h_, r_, A_4, c_4, l_4, A1, k1, l1, A_6, c_6, l_6, a3, A4, k4, l4, A5, k5, l5, rfl, ⟨hl4, hC4⟩, ⟨hl1, hC1⟩, ⟨hl6, hC6⟩, ⟨hl4_, hC4_⟩, ⟨hl5, hC5⟩, hw4, ⟨hw1.1, fun x hx => (hw1.2 x hx).1⟩, hw6, hw4_, hw5.1⟩
set_option maxRecDepth 100000 in
theorem lifted (os : Os) (started : os.Started) (H : Type) (enc : TypeId × Value → H) :
  ReturnsInHanded {} Tryz.checked os 3 .any (Rows.fnExactSameStreamSpec.pre6 enc Tryz.prog Tryz.f3 Rows.fnExactSameStreamRow.domain false) (Rows.fnExactSameStreamSpec.post enc Tryz.prog Tryz.f3 false true false false) := by
 refine returnsInHanded_of_change_sized (C := Tryz.checked) own started (by kernel_rfl) Tryz.func3
  (ChangeSpec.witness6 (enc := enc) (C := Tryz.checked) false ⟨#[], #[.agg #[.int .i64 0, .int .i64 0, .int .i64 0, .int .i64 0, .slice none 0 0, .slice none 0 0, .slice none 0 0, .int .i64 0, .slice none 0 0, .slice none 0 0], .agg #[.int .i64 0, .int .i64 0, .int .i64 0, .int .i64 0, .slice none 0 0, .slice none 0 0, .slice none 0 0, .int .i64 0, .slice none 0 0, .slice none 0 0]], []⟩ 8 (by kernel_rfl) (by kernel_rfl) (by kernel_rfl) (by kernel_rfl)) ?_
 intro W base args ds gs before hval0 hW hcnd hsz0 _
 have hval : ∀ (j : Nat) t v, Tryz.f3.params[j]? = some t → args[j]? = some v → Value.okWide Tryz.prog W .any base t v := hval0
 have hW' := hW
 obtain ⟨p, q, hA0, hV, rfl, hfz, hnd⟩ := hW
 have hA : DataW.TrodAll enc Tryz.prog W 0 (fun _ => true) true Tryz.f3.params.toList args.toList ds p := hA0
 rw [Tryz.params3] at hA hval
 obtain ⟨v0, vs0, d0, ds0, p0, q0, hargs, rfl, rfl, h0, r0⟩ := trodAll_cons hA
 obtain ⟨v1, vs1, d1, ds1, p1, q1, rfl, rfl, rfl, h1, r1⟩ := trodAll_cons r0
 obtain ⟨rfl, rfl, rfl⟩ := trodAll_nil r1
 obtain rfl : args = #[v0, v1] := by cases args; simp_all
 obtain ⟨rfl, rfl⟩ := trodVars_none hV
 obtain ⟨cs0, rfl, hcs0⟩ := okWide_struct Tryz.underlying32 (hval 0 32 v0 rfl rfl)
 have k0 := h0
 have lt0 : ∀ x ∈ p0, x.block < W.heap.size := by obtain ⟨m, hm⟩ := k0; exact DataW.trod_lt m _ _ _ hm
 obtain ⟨fuel0, hf0⟩ := h0
 obtain ⟨p0_, w0_, h0_, r0_, A0_4, c0_4, l0_4, A0_5, c0_5, l0_5, A0_6, c0_6, l0_6, m0_, A0_8, c0_8, l0_8, A0_9, c0_9, l0_9, hcs0_, ⟨hl04, hC04⟩, ⟨hl05, hC05⟩, ⟨hl06, hC06⟩, ⟨hl08, hC08⟩, ⟨hl09, hC09⟩, hz0⟩ := open_stream hf0
 obtain rfl : cs0 = #[.int .i64 p0_, .int .i64 w0_, .int .i64 h0_, .int .i64 r0_, .slice A0_4 l0_4.length c0_4, .slice A0_5 l0_5.length c0_5, .slice A0_6 l0_6.length c0_6, .int .i64 m0_, .slice A0_8 l0_8.length c0_8, .slice A0_9 l0_9.length c0_9] := by
  have : cs0.toList = [.int .i64 p0_, .int .i64 w0_, .int .i64 h0_, .int .i64 r0_, .slice A0_4 l0_4.length c0_4, .slice A0_5 l0_5.length c0_5, .slice A0_6 l0_6.length c0_6, .int .i64 m0_, .slice A0_8 l0_8.length c0_8, .slice A0_9 l0_9.length c0_9] := hcs0_
  cases cs0; simp_all
 obtain ⟨cs1, rfl, hcs1⟩ := okWide_struct Tryz.underlying32 (hval 1 32 v1 rfl rfl)
 have k1 := h1
 have lt1 : ∀ x ∈ p1, x.block < W.heap.size := by obtain ⟨m, hm⟩ := k1; exact DataW.trod_lt m _ _ _ hm
 obtain ⟨fuel1, hf1⟩ := h1
 obtain ⟨p1_, w1_, h1_, r1_, A1_4, c1_4, l1_4, A1_5, c1_5, l1_5, A1_6, c1_6, l1_6, m1_, A1_8, c1_8, l1_8, A1_9, c1_9, l1_9, hcs1_, ⟨hl14, hC14⟩, ⟨hl15, hC15⟩, ⟨hl16, hC16⟩, ⟨hl18, hC18⟩, ⟨hl19, hC19⟩, hz1⟩ := open_stream hf1
 obtain rfl : cs1 = #[.int .i64 p1_, .int .i64 w1_, .int .i64 h1_, .int .i64 r1_, .slice A1_4 l1_4.length c1_4, .slice A1_5 l1_5.length c1_5, .slice A1_6 l1_6.length c1_6, .int .i64 m1_, .slice A1_8 l1_8.length c1_8, .slice A1_9 l1_9.length c1_9] := by
  have : cs1.toList = [.int .i64 p1_, .int .i64 w1_, .int .i64 h1_, .int .i64 r1_, .slice A1_4 l1_4.length c1_4, .slice A1_5 l1_5.length c1_5, .slice A1_6 l1_6.length c1_6, .int .i64 m1_, .slice A1_8 l1_8.length c1_8, .slice A1_9 l1_9.length c1_9] := hcs1_
  cases cs1; simp_all
 clear hA0 hval0 hsz0
 obtain ⟨k, hk⟩ := PureFnExactSameStream p0_ w0_ h0_ r0_ l0_4 l0_5 l0_6 m0_ l0_8 l0_9 p1_ w1_ h1_ r1_ l1_4 l1_5 l1_6 m1_ l1_8 l1_9 hz0 hz1
 refine (laws_FnExactSameStream.calls k p0_ w0_ h0_ r0_ A0_4 c0_4 l0_4 A0_5 c0_5 l0_5 A0_6 c0_6 l0_6 m0_ A0_8 c0_8 l0_8 A0_9 c0_9 l0_9 p1_ w1_ h1_ r1_ A1_4 c1_4 l1_4 A1_5 c1_5 l1_5 A1_6 c1_6 l1_6 m1_ A1_8 c1_8 l1_8 A1_9 c1_9 l1_9 W hC04 hl04 hC05 hl05 hC06 hl06 hC08 hl08 hC09 hl09 hC14 hl14 hC15 hl15 hC16 hl16 hC18 hl18 hC19 hl19 hk).mono fun e W' ⟨he, bel0⟩ => ?_
 have bel : Below W.heap.size W W' := bel0
 subst he
 exact ⟨_, rfl, _, _, _, [], _, [], hW', trodAll_mk1 (shut_bool Tryz.underlying4 _), (trodAll_cons_mk (Below.trod laidOut (by kernel_rfl) (zI (by kernel_rfl)) k0 bel lt0) (trodAll_cons_mk (Below.trod laidOut (by kernel_rfl) (zI (by kernel_rfl)) k1 bel lt1) trodAll_mk0)), rfl, bel.frame _, fun h => by cases h⟩
theorem over : Rows.fnExactSameStreamRow.holds Tryz.pinned (OpenSpec.ofChange Rows.fnExactSameStreamSpec) :=
 OpenClaim.holds_of_wide 3 Tryz.f3 rfl rfl rfl rfl rfl rfl rfl ⟨rfl, rfl, rfl, rfl, rfl⟩ rfl rfl rfl rfl rfl (by kernel_rfl) Tryz.func3 (by kernel_rfl)
  (zI (by kernel_rfl)) (by unfold Func.isWrapper; first | (rw [if_pos (by decide +kernel)]; kernel_rfl) | (rw [if_neg (by decide +kernel)]; exact ⟨rfl, rfl⟩))
  (fun os started H enc _ => lifted os started H enc)
theorem proved : Rows.FnExactSameStreamSaid := over
#print axioms proved
end Go.Proofs.YtilimpjcdeeaiaaGreat.fnExactSameStream
namespace Go.Proofs.YtilimpjcdeeaiaaGreat
/-- The row, under a short name, for the claim. -/
theorem fnExactSameStream_holds : Rows.FnExactSameStreamSaid := fnExactSameStream.proved
end Go.Proofs.YtilimpjcdeeaiaaGreat

