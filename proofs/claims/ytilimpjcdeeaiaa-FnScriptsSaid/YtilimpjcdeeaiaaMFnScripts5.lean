import Derived.Deep.RegionLaw
import Derived.BigRegion
import Derived.IntWalk
import Derived.Deep.Slices
import Derived.ChangeArms
import Derived.Test.YtilimpjcdeeaiaaRows
import Derived.WalkKit
import Derived.ProofKit
import Derived.OpenShut
import Derived.ShutString
import Derived.ChangeOld
import Derived.Below
import Derived.SizedLaws
import Derived.Test.YtilimpjcdeeaiaaMFnScripts4
set_option linter.unusedVariables false
set_option linter.unusedSimpArgs false
namespace Go.Proofs.Ytilimpjcdeeaiaa.G
open Go.RowKit Go.Proofs.YtilimpjcdeeaiaaW.PrintWords Go.Proofs.YtilimpjcdeeaiaaW.PrintLast Go.Proofs.YtilimpjcdeeaiaaW.PrintMore
attribute [local go_sem] max2_int min2_int max_two min_two max_three min_three max_four min_four   -- for this text's walks alone
theorem FrX.alloc {w0 w W : World} {g : Nat} {c : List Int} {m gr gf gx : Nat} {v : Value} {l : List S102} (h : FrX w0 w W g c m gr gf gx v l) (o : Obj) : FrX w0 w (W.alloc o) g c m gr gf gx v l := h.kept (h.k.d.alloc o) (KeptOn.alloc _ _ _)
theorem FrX.putf {w0 w W : World} {g : Nat} {c : List Int} {m gr gf gx : Nat} {v : Value} {l : List S102} (h : FrX w0 w W g c m gr gf gx v l) (hg : g < w.heap.size) (j : Nat) (hj : j < 4) (y : Int) : FrX w0 w (W.setCell ⟨gf, j, none⟩ (.int .i64 y)) g c m gr gf gx v l := by
 obtain ⟨y1, y2, y3, y4, hx⟩ := h.x
 obtain ⟨x1, x2, x3, x4, hf⟩ := h.k.f
 have n2 : gx ≠ gf := (blk_ne hf hx (by decide)).symm
 have hr := Kd.R_set h.row hf (by decide) j (.int .i64 y)
 have h2 := blk_set hf j (.int .i64 y)
 have hjj : j = 0 ∨ j = 1 ∨ j = 2 ∨ j = 3 := by omega
 refine ⟨⟨h.k.d.set hg h.k.gf0 j _, blk_far h.k.r h.k.ne _, ?_, h.k.gr0, h.k.gf0, h.k.ne, zP hr (fun _ _ => trivial)⟩, ⟨y1, y2, y3, y4, blk_far hx n2 _⟩, h.gx0, hr⟩
 rcases hjj with rfl | rfl | rfl | rfl
 ·exact ⟨y, x2, x3, x4, by simpa using h2⟩
 ·exact ⟨x1, y, x3, x4, by simpa using h2⟩
 ·exact ⟨x1, x2, y, x4, by simpa using h2⟩
 ·exact ⟨x1, x2, x3, y, by simpa using h2⟩
theorem FrX.elem {w0 w W : World} {g : Nat} {c : List Int} {m gr gf gx go n cp : Nat} {l : List S102} (h : FrX w0 w W g c m gr gf gx (.slice (some ⟨go, 0, none⟩) n cp) l) (hg : g < w.heap.size) (k : Nat) (hk : k < l.length) (x : S102) :
  (W.cell? ⟨go, k * 4, none⟩ = some (.int .i64 l[k].f0) ∧ W.cell? ⟨go, k * 4 + 1, none⟩ = some (.int .i64 l[k].f1) ∧ W.cell? ⟨go, k * 4 + 2, none⟩ = some (.int .i64 l[k].f2) ∧ W.cell? ⟨go, k * 4 + 3, none⟩ = some (.int .i64 l[k].f3)) ∧
  (W.frozen? ⟨go, k * 4, none⟩ = false ∧ W.frozen? ⟨go, k * 4 + 1, none⟩ = false ∧ W.frozen? ⟨go, k * 4 + 2, none⟩ = false ∧ W.frozen? ⟨go, k * 4 + 3, none⟩ = false) ∧
  FrX w0 w ((((W.setCell ⟨go, k * 4, none⟩ (.int .i64 x.f0)).setCell ⟨go, k * 4 + 1, none⟩ (.int .i64 x.f1)).setCell ⟨go, k * 4 + 2, none⟩ (.int .i64 x.f2)).setCell ⟨go, k * 4 + 3, none⟩ (.int .i64 x.f3)) g c m gr gf gx (.slice (some ⟨go, 0, none⟩) n cp) (l.set k x) := by
 have hn := (yK h.row).1
 obtain ⟨ce, hcl, hM, hcc, hfr⟩ := Kd.R_elem h.row z102 (k : Int) (by omega) (by omega)
 obtain rfl := k102_openM hM
 have i0 := hcc 0 _ rfl
 have i1 := hcc 1 _ rfl
 have i2 := hcc 2 _ rfl
 have i3 := hcc 3 _ rfl
 obtain ⟨hR, hG⟩ := Kd.R_seg h.row (k : Int) (by omega) (by omega) (seg := [.int .i64 x.f0, .int .i64 x.f1, .int .i64 x.f2, .int .i64 x.f3]) (j := 0) hcl hcc (show 4 ≤ 4 from by decide) (x' := x) (k102_mkM _ _ _ x) (fun _ hk => hk)
 obtain ⟨y1, y2, y3, y4, hx⟩ := h.x
 obtain ⟨x1, x2, x3, x4, hf⟩ := h.k.f
 have g1 := blk_grown h.k.r hG (Kd.R_ne h.row h.k.r (by decide))
 have g2 := blk_grown hf hG (Kd.R_ne h.row hf (by decide))
 have g3 := blk_grown hx hG (Kd.R_away h.row (fun _ hk => hk))
 have f0 := hfr 0
 have f1 := hfr 1
 have f2 := hfr 2
 have f3 := hfr 3
 simp [show (k102).sz = 4 from rfl, List.getD_eq_getElem?_getD, List.getElem?_eq_getElem hk] at i0 i1 i2 i3 f0 f1 f2 f3
 refine ⟨⟨i0, i1, i2, i3⟩, ⟨f0, f1, f2, f3⟩, ⟨h.k.d.grown hg hG (fun k hk => Kd.R_base h.row k hk), g1, ⟨x1, x2, x3, x4, g2⟩, h.k.gr0, h.k.gf0, h.k.ne, zP hR (fun _ _ => trivial)⟩, ⟨y1, y2, y3, y4, g3⟩, h.gx0, hR⟩
def PickedX (w0 w W : World) (g : Nat) (c : List Int) (m gr gf gx : Nat) (v : Value) (l : List S102) (n : Int) (e : Ending) (W' : World) : Prop := ∃ x : Int, e = .returned (.int .i64 x) ∧ 0 ≤ x ∧ x < n ∧ FrX w0 w W' g c (m + 2) gr gf gx v l ∧ KeptOn w.heap.size W W'
theorem FrX.pick {w0 w W : World} {g : Nat} {c : List Int} {m gr gf gx : Nat} {v : Value} {l : List S102} (h : FrX w0 w W g c m gr gf gx v l) (hg : g < w.heap.size) (hm : m ≤ 1000000000000) (n : Int) (hn : 2 ≤ n) : Calls Try.prog 51 #[.pointer (some ⟨g, 0, none⟩), .int .i64 n] W (PickedX w0 w W g c m gr gf gx v l n) := by
 refine (h.k.d.cur.pick h.k.d.below hm n).mono ?_
 rintro e w' ⟨x, rfl, hx, hD⟩
 exact ⟨x, rfl, hx.1, by omega, h.kept (h.k.d.then_ hD) (KeptOn.of_keep hD.keep hg), KeptOn.of_keep hD.keep hg⟩
def OddX (w0 w : World) (g : Nat) (c : List Int) (m gr gf gx : Nat) (v : Value) (l : List S102) (e : Ending) (W' : World) : Prop := ∃ x : Int, e = .returned (.int .i64 x) ∧ FrX w0 w W' g c (m + 2) gr gf gx v l
theorem FrX.odd {w0 w W : World} {g : Nat} {c : List Int} {m gr gf gx : Nat} {v : Value} {l : List S102} (h : FrX w0 w W g c m gr gf gx v l) (hg : g < w.heap.size) (hm : m ≤ 1000000000000) : Calls Try.prog 105 #[.pointer (some ⟨g, 0, none⟩)] W (OddX w0 w g c m gr gf gx v l) := by
 refine (h.k.d.cur.odd h.k.d.below hm).mono ?_
 rintro e w' ⟨x, rfl, hD⟩
 exact ⟨x, rfl, h.kept (h.k.d.then_ hD) (KeptOn.of_keep hD.keep hg)⟩
def DrawnAny (w0 w : World) (g : Nat) (c : List Int) (m : Nat) (e : Ending) (w' : World) : Prop :=
 ∃ (p wd hg rs : Int) (v : Value) (l : List S102), e = .returned (.agg #[.int .i64 p, .int .i64 wd, .int .i64 hg, .int .i64 rs, v]) ∧ Kd.R k102 102 w' w.heap.size (fun k => w.heap.size ≤ k) v l ∧ l.length ≤ 5 ∧ DrS w0 w w' g c (m + 140)
set_option maxRecDepth 100000 in
set_option maxHeartbeats 4000000 in
theorem drawAny_calls (g : Nat) (c : List Int) (m : Nat) (n : Int) (w0 w : World) (hC : CurW w0 w g c m) (hB : Below w0.heap.size w0 w) (hm : m ≤ 100000000000) :
  Calls Try.prog 47 #[.pointer (some ⟨g, 0, none⟩), .int .i64 n] w (DrawnAny w0 w g c m) := by
 have HD := zA (show DrS w0 w w g c m from ⟨hC, hB, KeepBut.refl w g none⟩)
 have hgw := hC.lt
 clear hC hB
 go_enter Try.func47, Try.ntmps47
 go_upto_region 1 with (fail)
 have HD1 := zA (HD.out.alloc (Obj.cells #[.int .i64 0, .int .i64 0, .int .i64 0, .int .i64 0, .slice none 0 0] 26))
 have hb1 : Below w.heap.size w (w.alloc (Obj.cells #[.int .i64 0, .int .i64 0, .int .i64 0, .int .i64 0, .slice none 0 0] 26)) := zC (Below.refl _ _) _
 have k1 := blk_new w (Obj.cells #[.int .i64 0, .int .i64 0, .int .i64 0, .int .i64 0, .slice none 0 0] 26)
 generalize w.alloc (Obj.cells #[.int .i64 0, .int .i64 0, .int .i64 0, .int .i64 0, .slice none 0 0] 26) = W1 at HD1 k1 hb1 ⊢
 have K1 := zA k1
 have HB1 := zA hb1
 clear k1 hb1 HD
 go_upto_region 2 with (first | (go_at_call 104; go_loud (refine (drawFrame_calls g c m w0 _ HD1.out.cur HD1.out.below hm).mono ?_; rintro e w2 ⟨p, wd, hg, rs, v, l, rfl, hr, h1, h4, hd⟩; obtain ⟨A, cp, rfl⟩ := Kd.R_slice hr; have HR := zA hr; have HD2 := zA hd; clear hr hd)))
 refine gen_world (P := fun W => Aside0 (FrK w0 w W g c (m + 100) w.heap.size w2.heap.size (.slice A l.length cp) l)) ⟨?_⟩ (fun W3 HK => ?_)
 ·have hb := HB1.out
  have hk1 := K1.out
  have hd2 := HD2.out
  have hlt1 := blk_lt hk1
  have k2 := (hd2.keep.2 _ hlt1 (by omega) (by simp)).trans hk1
  have hlt2 := blk_lt k2
  exact ⟨(HD1.out.then_ hd2).alloc _, zD k2 _, ⟨p, wd, hg, rs, blk_new _ _⟩, Nat.le_refl _, by omega, by omega, zP (zN (Kd.R_lower HR.out hb.size) _) (fun _ _ => trivial)⟩
 clear HR HD2 HD1 HB1 K1
 generalize w.heap.size = gr at HK ⊢
 generalize w2.heap.size = gf at HK ⊢
 go_upto_region 4 with (first | (go_at_call 49; go_loud (refine (HK.out.d.cur.once HK.out.d.below (by omega) _).mono ?_; rintro e w2 ⟨b, rfl, hD⟩; replace HK := zA (HK.out.kept (HK.out.d.then_ hD) (KeptOn.of_keep hD.keep hgw)); clear hD; obtain ⟨x1, x2, x3, x4, hbf⟩ := HK.out.f; have q0 := zK hbf 0; have q1 := zK hbf 1; have q2 := zK hbf 2; have q3 := zK hbf 3; have q4 := zK hbf 4; simp at q0 q1 q2 q3 q4; clear hbf; have hbr := HK.out.r; have r0 := zK hbr 0; have r1 := zK hbr 1; have r2 := zK hbr 2; have r3 := zK hbr 3; have r4 := zK hbr 4; have z0 := zJ hbr 0; have z1 := zJ hbr 1; have z2 := zJ hbr 2; have z3 := zJ hbr 3; have z4 := zJ hbr 4; simp at r0 r1 r2 r3 r4; clear hbr)))
 ·obtain ⟨f1, f2, f3⟩ := HK.out.fin hgw x1 x2 x3 x4
  refine bodyPost_ret (results_cell_row rfl _ _ gr 26 #[.int .i64 x1, .int .i64 x2, .int .i64 x3, .int .i64 x4, .slice A l.length cp] (0, 0) _ rfl (by exact f1) Try.underlying26 rfl (by kernel_rfl)) rfl ?_
  exact ⟨x1, x2, x3, x4, _, _, rfl, f3, by omega, f2.up (by omega)⟩
 ·go_upto_region 6 with (first | (go_at_call 51; go_loud (refine (HK.out.d.cur.pick HK.out.d.below (by omega) _).mono ?_; rintro e w4 ⟨x, rfl, hx, hD⟩; replace HK := zA (HK.out.kept (HK.out.d.then_ hD) (KeptOn.of_keep hD.keep hgw)); clear hD; obtain ⟨k, rfl⟩ : ∃ k : Nat, x = (k : Int) := ⟨x.toNat, (by omega)⟩; have hk : k < l.length := (by omega); clear hx q0 q1 q2 q3 q4 r0 r1 r2 r3 r4 z0 z1 z2 z3 z4; obtain ⟨x1, x2, x3, x4, hbf⟩ := HK.out.f; have q0 := zK hbf 0; have q1 := zK hbf 1; have q2 := zK hbf 2; have q3 := zK hbf 3; have q4 := zK hbf 4; simp at q0 q1 q2 q3 q4; clear hbf; clear q0 q1 q2 q3; obtain ⟨go, co, eo, gb, gl, cl, HG⟩ := Kd.R_form HK.out.row (by omega); injection eo with ea en ec; subst ea; subst ec; clear en HG; obtain ⟨ce, hcl, hM, hcc, hfr⟩ := Kd.R_elem HK.out.row z102 (k : Int) (by omega) (by omega); obtain rfl := k102_openM hM; have i0 := hcc 0 _ rfl; have i1 := hcc 1 _ rfl; have i2 := hcc 2 _ rfl; have i3 := hcc 3 _ rfl; simp [show (k102).sz = 4 from rfl] at i0 i1 i2 i3; clear hcl hM hcc hfr)))
  refine gen_world (P := fun W => Aside0 (FrX w0 w W g c (m + 104) gr gf w4.heap.size (.slice (some ⟨go, 0, none⟩) l.length cp) l)) ⟨HK.out.box _ _ _ _⟩ (fun W5 HX => ?_)
  clear HK q4 i0 i1 i2 i3 gb gl cl
  generalize w4.heap.size = gx at HX ⊢
  obtain ⟨y1, y2, y3, y4, hbx⟩ := HX.out.x
  have p0 := zK hbx 0
  have p1 := zK hbx 1
  have p2 := zK hbx 2
  have p3 := zK hbx 3
  have h0 := zJ hbx 0
  have h1 := zJ hbx 1
  have h2 := zJ hbx 2
  have h3 := zJ hbx 3
  simp at p0 p1 p2 p3
  clear hbx
  obtain ⟨x1, x2, x3, x4, hbf⟩ := HX.out.k.f
  have q0 := zK hbf 0
  have q1 := zK hbf 1
  have q2 := zK hbf 2
  have q3 := zK hbf 3
  have j0 := zJ hbf 0
  have j1 := zJ hbf 1
  have j2 := zJ hbf 2
  have j3 := zJ hbf 3
  simp at q0 q1 q2 q3
  clear hbf
  go_upto_block 0 with (first | (go_at_call 51; go_loud (refine (FrX.pick (by first | exact HX.out | exact HX.out.alloc _ | exact HX.out.putf hgw _ (by decide) _) hgw (by omega) _ (by decide)).mono ?_; rintro e w5 ⟨x, rfl, hx0, hx1, hX, hk⟩; (first | (have hl := hk.new HX.out.k.d.keep.1; (first | (obtain ⟨y, hy⟩ := lit3_cell hl x hx0 hx1) | (obtain ⟨y, hy⟩ := lit4_cell hl x hx0 hx1)); clear hl) | skip); clear p0 p1 p2 p3 h0 h1 h2 h3 q0 q1 q2 q3 j0 j1 j2 j3; replace HX := zA hX; clear hX hk; obtain ⟨y1, y2, y3, y4, hbx⟩ := HX.out.x; have p0 := zK hbx 0; have p1 := zK hbx 1; have p2 := zK hbx 2; have p3 := zK hbx 3; have h0 := zJ hbx 0; have h1 := zJ hbx 1; have h2 := zJ hbx 2; have h3 := zJ hbx 3; simp at p0 p1 p2 p3; clear hbx; obtain ⟨x1, x2, x3, x4, hbf⟩ := HX.out.k.f; have q0 := zK hbf 0; have q1 := zK hbf 1; have q2 := zK hbf 2; have q3 := zK hbf 3; have j0 := zJ hbf 0; have j1 := zJ hbf 1; have j2 := zJ hbf 2; have j3 := zJ hbf 3; simp at q0 q1 q2 q3; clear hbf)))
  go_cut [] from 27 (fun wx => Aside0 (FrX w0 w wx g c (m + 120) gr gf gx (.slice (some ⟨go, 0, none⟩) l.length cp) l))
  case first =>
   go_wp2_with (first | (go_at_call 51; go_loud (refine (FrX.pick (by first | exact HX.out | exact HX.out.alloc _ | exact HX.out.putf hgw _ (by decide) _) hgw (by omega) _ (by decide)).mono ?_; rintro e w5 ⟨x, rfl, hx0, hx1, hX, hk⟩; (first | (have hl := hk.new HX.out.k.d.keep.1; (first | (obtain ⟨y, hy⟩ := lit3_cell hl x hx0 hx1) | (obtain ⟨y, hy⟩ := lit4_cell hl x hx0 hx1)); clear hl) | skip); clear p0 p1 p2 p3 h0 h1 h2 h3 q0 q1 q2 q3 j0 j1 j2 j3; replace HX := zA hX; clear hX hk; obtain ⟨y1, y2, y3, y4, hbx⟩ := HX.out.x; have p0 := zK hbx 0; have p1 := zK hbx 1; have p2 := zK hbx 2; have p3 := zK hbx 3; have h0 := zJ hbx 0; have h1 := zJ hbx 1; have h2 := zJ hbx 2; have h3 := zJ hbx 3; simp at p0 p1 p2 p3; clear hbx; obtain ⟨x1, x2, x3, x4, hbf⟩ := HX.out.k.f; have q0 := zK hbf 0; have q1 := zK hbf 1; have q2 := zK hbf 2; have q3 := zK hbf 3; have j0 := zJ hbf 0; have j1 := zJ hbf 1; have j2 := zJ hbf 2; have j3 := zJ hbf 3; simp at q0 q1 q2 q3; clear hbf)) | (go_at_call 105; go_loud (refine (FrX.odd (by first | exact HX.out | exact HX.out.alloc _) hgw (by omega)).mono ?_; rintro e w5 ⟨x, rfl, hX⟩; clear p0 p1 p2 p3 h0 h1 h2 h3 q0 q1 q2 q3 j0 j1 j2 j3; replace HX := zA hX; clear hX; obtain ⟨y1, y2, y3, y4, hbx⟩ := HX.out.x; have p0 := zK hbx 0; have p1 := zK hbx 1; have p2 := zK hbx 2; have p3 := zK hbx 3; have h0 := zJ hbx 0; have h1 := zJ hbx 1; have h2 := zJ hbx 2; have h3 := zJ hbx 3; simp at p0 p1 p2 p3; clear hbx; obtain ⟨x1, x2, x3, x4, hbf⟩ := HX.out.k.f; have q0 := zK hbf 0; have q1 := zK hbf 1; have q2 := zK hbf 2; have q3 := zK hbf 3; have j0 := zJ hbf 0; have j1 := zJ hbf 1; have j2 := zJ hbf 2; have j3 := zJ hbf 3; simp at q0 q1 q2 q3; clear hbf)))
   all_goals
    go_meet
    case rel => exact ⟨by repeat (first | exact HX.out.up (by omega) | refine FrX.put ?_ hgw _ (by decide) _ | refine FrX.putf ?_ hgw _ (by decide) _ | refine FrX.alloc ?_ _)⟩
  case rest =>
   clear HX h0 h1 h2 h3 p0 p1 p2 p3 j0 j1 j2 j3 q0 q1 q2 q3 hx0 hx1
   have HX := hcut
   clear hcut
   obtain ⟨y1, y2, y3, y4, hbx⟩ := HX.out.x
   have p0 := zK hbx 0
   have p1 := zK hbx 1
   have p2 := zK hbx 2
   have p3 := zK hbx 3
   simp at p0 p1 p2 p3
   obtain ⟨x1, x2, x3, x4, hbf⟩ := HX.out.k.f
   have q4 := zK hbf 4
   simp at q4
   obtain ⟨⟨i0, i1, i2, i3⟩, ⟨f0, f1, f2, f3⟩, HS⟩ := HX.out.elem hgw k hk ⟨y1, y2, y3, y4⟩
   replace HS := zA HS
   clear hbx hbf
   go_upto_region 26 with (fail)
   refine gen_world (P := fun W => Aside0 (FrX w0 w W g c (m + 120) gr gf gx (.slice (some ⟨go, 0, none⟩) l.length cp) (l.set k ⟨y1, y2, y3, y4⟩))) ⟨HS.out⟩ (fun W6 HX => ?_)
   clear HS f0 f1 f2 f3 i0 i1 i2 i3 p0 p1 p2 p3 q4
   generalize hl2 : l.set k ⟨y1, y2, y3, y4⟩ = l2 at HX
   have hll : l2.length = l.length := by rw [← hl2, List.length_set]
   rw [← hll] at HX ⊢
   have hl25 : l2.length ≤ 4 := by omega
   have HLL := zA hll
   clear hl2 hll
   go_upto_region 28 with (first | (go_at_call 49; go_loud (refine (HX.out.k.d.cur.once HX.out.k.d.below (by omega) _).mono ?_; rintro e w6 ⟨b2, rfl, hD⟩; replace HX := zA (HX.out.kept (HX.out.k.d.then_ hD) (KeptOn.of_keep hD.keep hgw)); clear hD; obtain ⟨y1, y2, y3, y4, hbx⟩ := HX.out.x; have p0 := zK hbx 0; have p1 := zK hbx 1; have p2 := zK hbx 2; have p3 := zK hbx 3; simp at p0 p1 p2 p3; have hgx := blk_lt hbx; clear hbx; obtain ⟨x1, x2, x3, x4, hbf⟩ := HX.out.k.f; have q4 := zK hbf 4; simp at q4; have HF := zA hbf; clear hbf)) | ((with_reducible refine gate_builtin (b := .append) (xs := #[.tmp 96, .tmp 98]) rfl ?_); at_builtin; go_loud (refine Kd.R_append k102 (w0 := w6) w.heap.size rfl (.tmp 96) (.tmp 98) 24 102 (.agg #[.int .i64 0, .int .i64 0, .int .i64 0, .int .i64 0]) 32 rfl Try.underlying24 info102 rfl (by decide) (by omega) (.slice (some ⟨go, 0, none⟩) l2.length cp) l2 ⟨y1, y2, y3, y4⟩ [.int .i64 y1, .int .i64 y2, .int .i64 y3, .int .i64 y4] (fun k => k ≠ gx) (fun _ => False) rfl rfl (k102_mkM _ _ _ _) (fun _ hk => hk.elim) (fun k hk => by omega) HX.out.row (Below.refl _ _) HX.out.k.d.keep.1 (by omega) ?_; intro v69 w7 ho hb hg hat; obtain ⟨A4, c4, e4⟩ := Kd.R_slice ho; subst e4; rw [zX, List.length_singleton] at ho; have z4 := zJ (blk_grown HF.out hg (Kd.R_ne HX.out.row HF.out (by decide))) 4; have q9 := zK (blk_grown HF.out hg (Kd.R_ne HX.out.row HF.out (by decide))) 4; simp at q9; have HK := zA (HX.out.push hgw ho hg); clear ho hb hg hat p0 p1 p2 p3 q4 HX)))
   ·clear x1 x2 x3 x4 HF z4 q9
    obtain ⟨x1, x2, x3, x4, hbf⟩ := HK.out.f
    have q0 := zK hbf 0
    have q1 := zK hbf 1
    have q2 := zK hbf 2
    have q3 := zK hbf 3
    have q4 := zK hbf 4
    simp at q0 q1 q2 q3 q4
    clear hbf
    have hbr := HK.out.r
    have r0 := zK hbr 0
    have r1 := zK hbr 1
    have r2 := zK hbr 2
    have r3 := zK hbr 3
    have r4 := zK hbr 4
    have z0 := zJ hbr 0
    have z1 := zJ hbr 1
    have z2 := zJ hbr 2
    have z3 := zJ hbr 3
    have z4 := zJ hbr 4
    simp at r0 r1 r2 r3 r4
    clear hbr
    go_wp2
    obtain ⟨f1, f2, f3⟩ := HK.out.fin hgw x1 x2 x3 x4
    refine bodyPost_ret (results_cell_row rfl _ _ gr 26 #[.int .i64 x1, .int .i64 x2, .int .i64 x3, .int .i64 x4, .slice A4 (l2.length + 1) c4] (0, 0) _ rfl (by exact f1) Try.underlying26 rfl (by kernel_rfl)) rfl ?_
    exact ⟨x1, x2, x3, x4, _, _, rfl, f3, by simp; omega, f2.up (by omega)⟩
   ·have HK := zA HX.out.k
    clear HX
    obtain ⟨x1, x2, x3, x4, hbf⟩ := HK.out.f
    have q0 := zK hbf 0
    have q1 := zK hbf 1
    have q2 := zK hbf 2
    have q3 := zK hbf 3
    have q4 := zK hbf 4
    simp at q0 q1 q2 q3 q4
    clear hbf
    have hbr := HK.out.r
    have r0 := zK hbr 0
    have r1 := zK hbr 1
    have r2 := zK hbr 2
    have r3 := zK hbr 3
    have r4 := zK hbr 4
    have z0 := zJ hbr 0
    have z1 := zJ hbr 1
    have z2 := zJ hbr 2
    have z3 := zJ hbr 3
    have z4 := zJ hbr 4
    simp at r0 r1 r2 r3 r4
    clear hbr
    go_wp2
    obtain ⟨f1, f2, f3⟩ := HK.out.fin hgw x1 x2 x3 x4
    refine bodyPost_ret (results_cell_row rfl _ _ gr 26 #[.int .i64 x1, .int .i64 x2, .int .i64 x3, .int .i64 x4, .slice (some ⟨go, 0, none⟩) l2.length cp] (0, 0) _ rfl (by exact f1) Try.underlying26 rfl (by kernel_rfl)) rfl ?_
    exact ⟨x1, x2, x3, x4, _, _, rfl, f3, by omega, f2.up (by omega)⟩
end Go.Proofs.Ytilimpjcdeeaiaa.G


namespace Go.Proofs.Ytilimpjcdeeaiaa.G
open Go.RowKit Go.Proofs.YtilimpjcdeeaiaaW.PrintWords Go.Proofs.YtilimpjcdeeaiaaW.PrintLast Go.Proofs.YtilimpjcdeeaiaaW.PrintMore
attribute [local go_sem] max2_int min2_int max_two min_two max_three min_three max_four min_four   -- for this text's walks alone
def ScriptDrawn (w0 w : World) (g : Nat) (c : List Int) (m : Nat) (e : Ending) (w' : World) : Prop :=
 ∃ (v : Value) (r : List S38), e = .returned v ∧ Kd.N k38 38 w' w.heap.size (fun k => w.heap.size ≤ k) v r ∧ r.length ≤ 1000 ∧ ShortS 5 r ∧ DrS w0 w w' g c (m + 2000)
theorem drawScript_calls (g : Nat) (c : List Int) (m : Nat) (p wd hg rs : Int) (A : Option Addr) (cp : Nat) (l : List S102) (w0 w : World) (hC : CurW w0 w g c m) (hB : Below w0.heap.size w0 w) (hm : m ≤ 1000000) (hr : ∀ W_, KeepBut w W_ g none → Kd.C k102 W_ A l.length l) (hc : l.length ≤ cp) (hl : l.length ≤ 5) :
  Calls Try.prog 48 #[.pointer (some ⟨g, 0, none⟩), .agg #[.int .i64 p, .int .i64 wd, .int .i64 hg, .int .i64 rs, .slice A l.length cp]] w (ScriptDrawn w0 w g c m) := by
 obtain ⟨a, s, hI, hA⟩ := hC
 obtain ⟨⟨r1, r2, r3⟩, hev, hF, hcur⟩ := spec_l12DrawScript.ev hA hm p wd hg rs l hl
 obtain ⟨k, hk⟩ := hev.rounds
 refine (spec_l12DrawScript.calls k g c a s p wd hg rs A cp l r1 r2 r3 w0 w hI hB hr hc hk).mono ?_
 rintro e w' ⟨v, rfl, hN, hI2, hB2, hK⟩
 exact ⟨v, r1, rfl, hN, hF.1, hF.2, ⟨⟨_, _, hI2, hcur⟩, hB2, hK⟩⟩
def LeftDrawn (w : World) (e : Ending) (w' : World) : Prop :=
 ∃ (p wd hg rs : Int) (A A2 : Option Addr) (cp c2 : Nat) (l : List S102) (s : List S38), e = .returned (.tuple #[.agg #[.int .i64 p, .int .i64 wd, .int .i64 hg, .int .i64 rs, .slice A l.length cp], .slice A2 s.length c2]) ∧ Kd.C k102 w' A l.length l ∧ l.length ≤ cp ∧ l.length ≤ 5 ∧ Kd.C k38 w' A2 s.length s ∧ s.length ≤ c2 ∧ s.length ≤ 2000 ∧ ShortS 6 s ∧ Below w.heap.size w w'
/-- the frame in its box, the scans -/
structure LgK (w ws W : World) (g : Nat) (c : List Int) (m gr gf : Nat) (p wd hg rs : Int) (A : Option Addr) (cp : Nat) (l : List S102) (A2 : Option Addr) (c2 : Nat) (s : List S38) : Prop where
 d : DrS w ws W g c m
 gr0 : w.heap.size ≤ gr
 r : W.heap[gr]? = some (.cells #[.int .i64 0, .int .i64 0, .int .i64 0, .int .i64 0, .slice none 0 0] 26 (0, 0))
 f : W.heap[gf]? = some (.cells #[.int .i64 p, .int .i64 wd, .int .i64 hg, .int .i64 rs, .slice A l.length cp] 26 (0, 0))
 ne : gr ≠ gf
 gne : gr ≠ g ∧ gf ≠ g
 row : Kd.F k102 W (fun k => k ≠ g ∧ k ≠ gr) A l.length l
 lc : l.length ≤ cp
 ls : Kd.F k38 W (fun k => k ≠ g ∧ k ≠ gr) A2 s.length s
 sc : s.length ≤ c2
 ss : ShortS 6 s
 gg : gr < ws.heap.size ∧ g < ws.heap.size
theorem LgK.keep {w ws W : World} {g : Nat} {c : List Int} {m gr gf : Nat} {p wd hg rs : Int} {A : Option Addr} {cp : Nat} {l : List S102} {A2 : Option Addr} {c2 : Nat} {s : List S38} {W' : World} {m' : Nat} (h : LgK w ws W g c m gr gf p wd hg rs A cp l A2 c2 s) (hd : DrS w W W' g c m') : LgK w ws W' g c m' gr gf p wd hg rs A cp l A2 c2 s :=
 ⟨h.d.then_ hd, h.gr0, (hd.keep.2 gr (blk_lt h.r) h.gne.1 (by simp)).trans h.r, (hd.keep.2 gf (blk_lt h.f) h.gne.2 (by simp)).trans h.f, h.ne, h.gne, Kd.F_keep h.row hd.keep (fun k hk => hk.1), h.lc, Kd.F_keep h.ls hd.keep (fun k hk => hk.1), h.sc, h.ss, h.gg⟩
theorem LgK.cells {w ws W : World} {g : Nat} {c : List Int} {m gr gf : Nat} {p wd hg rs : Int} {A : Option Addr} {cp : Nat} {l : List S102} {A2 : Option Addr} {c2 : Nat} {s : List S38} (h : LgK w ws W g c m gr gf p wd hg rs A cp l A2 c2 s) : W.cell? ⟨gf, 0, none⟩ = some (.int .i64 p) ∧ W.cell? ⟨gf, 1, none⟩ = some (.int .i64 wd) ∧ W.cell? ⟨gf, 2, none⟩ = some (.int .i64 hg) ∧ W.cell? ⟨gf, 3, none⟩ = some (.int .i64 rs) ∧ W.cell? ⟨gf, 4, none⟩ = some (.slice A l.length cp) ∧ W.cell? ⟨gr, 0, none⟩ = some (.int .i64 0) ∧ W.cell? ⟨gr, 1, none⟩ = some (.int .i64 0) ∧ W.cell? ⟨gr, 2, none⟩ = some (.int .i64 0) ∧ W.cell? ⟨gr, 3, none⟩ = some (.int .i64 0) ∧ W.cell? ⟨gr, 4, none⟩ = some (.slice none 0 0) ∧ W.frozen? ⟨gr, 0, none⟩ = false ∧ W.frozen? ⟨gr, 1, none⟩ = false ∧ W.frozen? ⟨gr, 2, none⟩ = false ∧ W.frozen? ⟨gr, 3, none⟩ = false ∧ W.frozen? ⟨gr, 4, none⟩ = false :=
 ⟨zK h.f 0, zK h.f 1, zK h.f 2, zK h.f 3, zK h.f 4, zK h.r 0, zK h.r 1, zK h.r 2, zK h.r 3, zK h.r 4, zJ h.r 0, zJ h.r 1, zJ h.r 2, zJ h.r 3, zJ h.r 4⟩
theorem LgK.reads {w ws W : World} {g : Nat} {c : List Int} {m gr gf : Nat} {p wd hg rs : Int} {A : Option Addr} {cp : Nat} {l : List S102} {A2 : Option Addr} {c2 : Nat} {s : List S38} (h : LgK w ws W g c m gr gf p wd hg rs A cp l A2 c2 s) : ∀ W_, KeepBut W W_ g none → Kd.C k102 W_ A l.length l := fun W_ hk => Kd.F_now (Kd.F_keep h.row hk (fun k hk => hk.1))
theorem LgK.reads2 {w ws W : World} {g : Nat} {c : List Int} {m gr gf : Nat} {p wd hg rs : Int} {A : Option Addr} {cp : Nat} {l : List S102} {A2 : Option Addr} {c2 : Nat} {s : List S38} (h : LgK w ws W g c m gr gf p wd hg rs A cp l A2 c2 s) : ∀ W_, KeepBut W W_ g none → Kd.C k38 W_ A2 s.length s := fun W_ hk => Kd.F_now (Kd.F_keep h.ls hk (fun k hk => hk.1))
/-- other scans, just made -/
theorem LgK.list {w ws W : World} {g : Nat} {c : List Int} {m gr gf : Nat} {p wd hg rs : Int} {A : Option Addr} {cp : Nat} {l : List S102} {A2 : Option Addr} {c2 : Nat} {s : List S38} {W' : World} {m' : Nat} {A3 : Option Addr} {c3 : Nat} {s3 : List S38} (h : LgK w ws W g c m gr gf p wd hg rs A cp l A2 c2 s) (hd : DrS w W W' g c m') (hN : Kd.N k38 38 W' W.heap.size (fun k => W.heap.size ≤ k) (.slice A3 s3.length c3) s3) (hs : ShortS 6 s3) : LgK w ws W' g c m' gr gf p wd hg rs A cp l A3 c3 s3 := by
 have h1 := h.keep hd
 have hk := h.d.keep.1
 have hgg := h.gg
 exact { h1 with ls := Kd.F_mono (Kd.N_F hN) (fun k hk' => ⟨by omega, by omega⟩), sc := (Kd.N_reads' hN).2.1, ss := hs }
theorem LgK.cut {w ws W : World} {g : Nat} {c : List Int} {m gr gf : Nat} {p wd hg rs : Int} {A : Option Addr} {cp : Nat} {l : List S102} {A2 : Option Addr} {c2 : Nat} {s : List S38} (h : LgK w ws W g c m gr gf p wd hg rs A cp l A2 c2 s) (k : Nat) (hk : k ≤ s.length) : LgK w ws W g c m gr gf p wd hg rs A cp l A2 c2 (s.take k) :=
 { h with ls := Kd.F_take h.ls hk, sc := by have := h.sc; rw [zQ]; omega, ss := fun x hx => h.ss x (List.mem_of_mem_take hx) }
theorem LgK.fin {w ws W : World} {g : Nat} {c : List Int} {m gr gf : Nat} {p wd hg rs : Int} {A : Option Addr} {cp : Nat} {l : List S102} {A2 : Option Addr} {c2 : Nat} {s : List S38} (h : LgK w ws W g c m gr gf p wd hg rs A cp l A2 c2 s) : (((((W.setCell ⟨gr, 0, none⟩ (.int .i64 p)).setCell ⟨gr, 1, none⟩ (.int .i64 wd)).setCell ⟨gr, 2, none⟩ (.int .i64 hg)).setCell ⟨gr, 3, none⟩ (.int .i64 rs)).setCell ⟨gr, 4, none⟩ (.slice A l.length cp)).heap[gr]? = some (.cells #[.int .i64 p, .int .i64 wd, .int .i64 hg, .int .i64 rs, .slice A l.length cp] 26 (0, 0)) ∧ Kd.C k102 (((((W.setCell ⟨gr, 0, none⟩ (.int .i64 p)).setCell ⟨gr, 1, none⟩ (.int .i64 wd)).setCell ⟨gr, 2, none⟩ (.int .i64 hg)).setCell ⟨gr, 3, none⟩ (.int .i64 rs)).setCell ⟨gr, 4, none⟩ (.slice A l.length cp)) A l.length l ∧ Kd.C k38 (((((W.setCell ⟨gr, 0, none⟩ (.int .i64 p)).setCell ⟨gr, 1, none⟩ (.int .i64 wd)).setCell ⟨gr, 2, none⟩ (.int .i64 hg)).setCell ⟨gr, 3, none⟩ (.int .i64 rs)).setCell ⟨gr, 4, none⟩ (.slice A l.length cp)) A2 s.length s ∧ Below w.heap.size w (((((W.setCell ⟨gr, 0, none⟩ (.int .i64 p)).setCell ⟨gr, 1, none⟩ (.int .i64 wd)).setCell ⟨gr, 2, none⟩ (.int .i64 hg)).setCell ⟨gr, 3, none⟩ (.int .i64 rs)).setCell ⟨gr, 4, none⟩ (.slice A l.length cp)) := by
 have b1 := blk_set h.r 0 (.int .i64 p)
 have b2 := blk_set b1 1 (.int .i64 wd)
 have b3 := blk_set b2 2 (.int .i64 hg)
 have b4 := blk_set b3 3 (.int .i64 rs)
 have b5 := blk_set b4 4 (.slice A l.length cp)
 refine ⟨by simpa using b5, ?_, ?_, ?_⟩
 ·exact Kd.F_now (Kd.F_far (Kd.F_far (Kd.F_far (Kd.F_far (Kd.F_far h.row (p := ⟨gr, 0, none⟩) (fun _ hk => hk.2) _) (p := ⟨gr, 1, none⟩) (fun _ hk => hk.2) _) (p := ⟨gr, 2, none⟩) (fun _ hk => hk.2) _) (p := ⟨gr, 3, none⟩) (fun _ hk => hk.2) _) (p := ⟨gr, 4, none⟩) (fun _ hk => hk.2) _)
 ·exact Kd.F_now (Kd.F_far (Kd.F_far (Kd.F_far (Kd.F_far (Kd.F_far h.ls (p := ⟨gr, 0, none⟩) (fun _ hk => hk.2) _) (p := ⟨gr, 1, none⟩) (fun _ hk => hk.2) _) (p := ⟨gr, 2, none⟩) (fun _ hk => hk.2) _) (p := ⟨gr, 3, none⟩) (fun _ hk => hk.2) _) (p := ⟨gr, 4, none⟩) (fun _ hk => hk.2) _)
 ·exact zE (zE (zE (zE (zE h.d.below h.gr0) h.gr0) h.gr0) h.gr0) h.gr0
set_option maxRecDepth 100000 in
set_option maxHeartbeats 4000000 in
theorem drawLeftOf_calls (A0 : Option Addr) (c0 : Nat) (l0 : List Int) (w : World) (hr0 : Kd.C (Kd.int .u8) w A0 l0.length l0) (hc0 : l0.length ≤ c0) (hb0 : ∀ x ∈ l0, 0 ≤ x ∧ x ≤ 255) (hl0 : l0.length ≤ 1048576) :
  Calls Try.prog 8 #[.slice A0 l0.length c0] w (LeftDrawn w) := by
 have HR := zA hr0
 have HBY := zA hb0
 clear hr0 hb0
 have k1 := blk_new w (Obj.cells #[.int .i64 0, .int .i64 0, .int .i64 0, .int .i64 0, .slice none 0 0] 26)
 have HB1 := zA (show Below w.heap.size w (w.alloc (Obj.cells #[.int .i64 0, .int .i64 0, .int .i64 0, .int .i64 0, .slice none 0 0] 26)) from zC (Below.refl _ _) _)
 go_enter Try.func8, Try.ntmps8
 go_upto_region 1 with (fail)
 generalize w.alloc (Obj.cells #[.int .i64 0, .int .i64 0, .int .i64 0, .int .i64 0, .slice none 0 0] 26) = W1 at HB1 k1 ⊢
 have K1 := zA k1
 clear k1
 go_upto_region 2 with (first | (go_at_call 46; go_loud (refine (spec_l01Open.calls A0 c0 l0 l0 0 (13 + ((l0.length : Int) % 1000)) w _ HB1.out HR.out hc0 (by unfold spec_l01Open.f; rfl)).mono ?_; rintro e w2 ⟨g, rfl, hI, hB2, hB3⟩; have k2 := (hB3.block _ (blk_lt K1.out)).trans K1.out; have hgg : g ≠ w.heap.size := hI.ne_blk k2 (by decide); have HD := zA (show DrS w w2 w2 g l0 0 from ⟨⟨0, _, hI, ⟨HBY.out, hl0, Int.le_refl _, Int.le_refl _, (by omega), (by omega)⟩⟩, hB2, KeepBut.refl _ _ _⟩); have K2 := zA k2; have hgs := hI.lt; clear hI hB2 hB3 k2 K1 HB1)))
 generalize hgr : w.heap.size = gr at K2 hgg ⊢
 have HGR := zA hgr
 clear hgr
 go_upto_region 3 with (first | (go_at_call 47; go_loud (refine (drawAny_calls g l0 0 12 w _ HD.out.cur HD.out.below (by omega)).mono ?_; rintro e w3 ⟨p, wd, hg, rs, v, l, rfl, hr, h5, hd⟩; obtain ⟨A, cp, rfl⟩ := Kd.R_slice hr; have HRR := zA hr; replace HD := zA (HD.out.then_ hd); have K3 := zA ((hd.keep.2 gr (blk_lt K2.out) (fun e => hgg e.symm) (by simp)).trans K2.out); clear hr hd)))
 refine gen_world (P := fun W => Aside0 (LgK w w2 W g l0 140 gr w3.heap.size p wd hg rs A cp l none 0 [])) ⟨?_⟩ (fun W4 HG => ?_)
 ·have h1 := HD.out.keep.1
  have h2 := blk_lt K2.out
  have h3 := HGR.out
  refine ⟨HD.out.alloc _, by omega, zD K3.out _, blk_new _ _, by omega, ⟨fun e => hgg e.symm, by omega⟩, Kd.F_alloc (Kd.F_mono (Kd.R_F HRR.out) (fun k hk => ⟨by omega, by omega⟩)) _, (yK HRR.out).2.1, fun W' _ => Kd.C_nil _ W', Nat.le_refl _, fun x hx => (by cases hx), ⟨h2, hgs⟩⟩
 clear HRR HD K3 K2
 generalize w3.heap.size = gf at HG ⊢
 have hbf := HG.out.f
 have q0 := zK hbf 0
 have q1 := zK hbf 1
 have q2 := zK hbf 2
 have q3 := zK hbf 3
 have q4 := zK hbf 4
 simp at q0 q1 q2 q3 q4
 clear hbf
 go_upto_region 4 with (first | (go_at_call 48; go_loud (refine (drawScript_calls g l0 140 p wd hg rs A cp l w _ HG.out.d.cur HG.out.d.below (by omega) HG.out.reads HG.out.lc h5).mono ?_; rintro e w5 ⟨v, s, rfl, hN, hs1, hs2, hd⟩; obtain ⟨A2, c2, rfl⟩ := Kd.N_slice hN; replace HG := zA (HG.out.list hd hN (hs2.up (by decide))); have HS5 := zA hs2; clear hN hd hs2 q0 q1 q2 q3 q4)))
 go_wp2_with (first | (go_at_call 49; go_loud (refine (HG.out.d.cur.once HG.out.d.below (by omega) _).mono ?_; rintro e w6 ⟨b, rfl, hD⟩; replace HG := zA (HG.out.keep hD); clear hD; (try clear q0 q1 q2 q3 q4 r0 r1 r2 r3 r4 z0 z1 z2 z3 z4); obtain ⟨q0, q1, q2, q3, q4, r0, r1, r2, r3, r4, z0, z1, z2, z3, z4⟩ := HG.out.cells)) | (go_at_call 50; go_loud (refine (spoil_calls g l0 _ A2 c2 s w _ HG.out.d.cur HG.out.d.below (by omega) HG.out.reads2 HG.out.sc (by omega) HS5.out).mono ?_; rintro e w7 ⟨v, s2, rfl, hN, hs3, hs4, hd⟩; obtain ⟨A3, c3, rfl⟩ := Kd.N_slice hN; replace HG := zA (HG.out.list hd hN hs4); have hs6 : s2.length ≤ 1042 := (by omega); clear hN hd hs4 q0 q1 q2 q3 q4 r0 r1 r2 r3 r4 z0 z1 z2 z3 z4; obtain ⟨q0, q1, q2, q3, q4, r0, r1, r2, r3, r4, z0, z1, z2, z3, z4⟩ := HG.out.cells)) | (go_at_call 51; go_loud (refine (HG.out.d.cur.pick HG.out.d.below (by omega) _).mono ?_; rintro e w8 ⟨x, rfl, hx, hD⟩; replace HG := zA (HG.out.keep hD); clear hD q0 q1 q2 q3 q4 r0 r1 r2 r3 r4 z0 z1 z2 z3 z4; obtain ⟨q0, q1, q2, q3, q4, r0, r1, r2, r3, r4, z0, z1, z2, z3, z4⟩ := HG.out.cells; obtain ⟨k, rfl⟩ : ∃ k : Nat, x = (k : Int) := ⟨x.toNat, (by omega)⟩; have hsc := HG.out.sc; first | (have hk : k ≤ s2.length := (by omega); have hk2 : k ≤ c3 := (by omega); replace HG := zA (HG.out.cut k hk)) | (have hk : k ≤ s.length := (by omega); have hk2 : k ≤ c2 := (by omega); replace HG := zA (HG.out.cut k hk)))))
 all_goals
  obtain ⟨e1, e2, e3, e4⟩ := HG.out.fin
  have hlc := HG.out.lc
  have hsc2 := HG.out.sc
  have hss := zA HG.out.ss
  refine bodyPost_ret (results_list (rs := [.cell 2 26, .tmp 3]) rfl (by simp) (.cell gr 26 #[.int .i64 p, .int .i64 wd, .int .i64 hg, .int .i64 rs, .slice A l.length cp] (0, 0) _ rfl (by exact e1) Try.underlying26 rfl (by kernel_rfl) (.tmp .nil))) rfl ?_
  refine ⟨p, wd, hg, rs, A, _, cp, _, l, _, ?eq, e2, hlc, h5, e3, hsc2, ?len, hss.out, e4⟩
  case eq => first | rfl | (rw [zQ, Nat.min_eq_left hk]; rfl)
  case len => first | omega | (rw [zQ]; omega)
end Go.Proofs.Ytilimpjcdeeaiaa.G


namespace Go.Proofs.Ytilimpjcdeeaiaa.G
open Go.RowKit Go.Proofs.YtilimpjcdeeaiaaW.PrintWords Go.Proofs.YtilimpjcdeeaiaaW.PrintLast Go.Proofs.YtilimpjcdeeaiaaW.PrintMore
attribute [local go_sem] max2_int min2_int max_two min_two max_three min_three max_four min_four   -- for this text's walks alone
def isWholeM (L : Option (List (List Int))) : Bool := match L with
 | some L => L.all (allW 0 0)
 | none => false
theorem whole_dec : ∀ n : Fin 4, ∀ k : Fin 3, isWholeM (leftM (n.val + 1) (scriptM (n.val + 1) (k.val : Int))) = true := by decide +kernel
theorem twice_dec : ∀ n : Fin 4, ∀ k : Fin 3, (leftM (n.val + 1) (scriptM (n.val + 1) (k.val : Int) ++ (scriptM (n.val + 1) (k.val : Int)).take 1)).isNone = true := by decide +kernel
theorem long_dec : ∀ n : Fin 4, ∀ k : Fin 3, 0 < (scriptM (n.val + 1) (k.val : Int)).length := by decide +kernel
def Finer (L L' : List (List Int)) : Prop := ∀ i k : Nat, 0 ≤ (L.getD i []).getD k (-1) → 0 ≤ (L'.getD i []).getD k (-1) ∧ (L'.getD i []).getD k (-1) ≤ (L.getD i []).getD k (-1)
theorem Finer.refl (L : List (List Int)) : Finer L L := fun _ _ h => ⟨h, Int.le_refl _⟩
theorem Finer.trans {L L1 L2 : List (List Int)} (a : Finer L L1) (b : Finer L1 L2) : Finer L L2 := fun i k h => by
 have h1 := a i k h
 have h2 := b i k h1.1
 exact ⟨h2.1, Int.le_trans h2.2 h1.2⟩
theorem Finer.put (L : List (List Int)) (c k : Nat) (v : Int) (h0 : 0 ≤ v) (h : rd (L.getD c []) (k : Int) < 0 ∨ v ≤ rd (L.getD c []) (k : Int)) : Finer L (L.set c ((L.getD c []).set k v)) := by
 intro i j hj
 by_cases hc : c < L.length
 ·by_cases hi : i = c
  ·subst hi
   have e : (L.set i ((L.getD i []).set k v)).getD i [] = (L.getD i []).set k v := by
    rw [List.getD_eq_getElem?_getD, List.getElem?_set_self hc]; rfl
   rw [e]
   generalize L.getD i [] = R at *
   by_cases hk : k < R.length
   ·by_cases hjk : j = k
    ·subst hjk
     have e1 : (R.set j v).getD j (-1) = v := by rw [List.getD_eq_getElem?_getD, List.getElem?_set_self hk]; rfl
     have e2 : rd R (j : Int) = R.getD j (-1) := by rw [rd_nat R j hk, List.getD_eq_getElem?_getD, List.getElem?_eq_getElem hk]; rfl
     rw [e1]
     rw [e2] at h
     exact ⟨h0, by omega⟩
    ·have e1 : (R.set k v).getD j (-1) = R.getD j (-1) := by rw [List.getD_eq_getElem?_getD, List.getElem?_set_ne (fun q => hjk q.symm), ← List.getD_eq_getElem?_getD]
     rw [e1]
     exact ⟨hj, Int.le_refl _⟩
   ·rw [List.set_eq_of_length_le (by omega)]
    exact ⟨hj, Int.le_refl _⟩
  ·have e : (L.set c ((L.getD c []).set k v)).getD i [] = L.getD i [] := by rw [List.getD_eq_getElem?_getD, List.getElem?_set_ne (fun q => hi q.symm), ← List.getD_eq_getElem?_getD]
   rw [e]
   exact ⟨hj, Int.le_refl _⟩
 ·rw [List.set_eq_of_length_le (by omega)]
  exact ⟨hj, Int.le_refl _⟩
theorem tellK_finer (want lo : Int) (h0 : 0 ≤ lo) (h : want < 0 ∨ lo ≤ want) (c : Nat) : ∀ (m k : Nat) (L L' : List (List Int)), tellK want lo c m k L = some L' → Finer L L'
 | 0, k, L, L', e => by rw [tellK] at e; rw [Option.some.inj e]; exact Finer.refl _
 | m + 1, k, L, L', e => by
  rw [tellK] at e
  split at e
  ·rename_i hq
   exact (Finer.put L c k lo h0 (by rw [hq]; exact h)).trans (tellK_finer want lo h0 h c m (k + 1) _ L' e)
  ·cases e
theorem tellC_finer (want lo : Int) (h0 : 0 ≤ lo) (h : want < 0 ∨ lo ≤ want) (fr n : Nat) : ∀ (cs : List Int) (L L' : List (List Int)), tellC want lo fr n cs L = some L' → Finer L L'
 | [], L, L', e => by rw [tellC] at e; rw [Option.some.inj e]; exact Finer.refl _
 | c :: cs, L, L', e => by
  rw [tellC] at e
  obtain ⟨L1, e1, e2⟩ := Option.bind_eq_some_iff.1 e
  exact (tellK_finer want lo h0 h c.toNat n fr L L1 e1).trans (tellC_finer want lo h0 h fr n cs L1 L' e2)
theorem leftGo_finer (n : Nat) : ∀ (ss : List SN) (L L' : List (List Int)), ss.all (scanOkM n) = true → leftGo ss L = some L' → Finer L L'
 | [], L, L', _, e => by rw [leftGo] at e; rw [Option.some.inj e]; exact Finer.refl _
 | s :: ss, L, L', ha, e => by
  rw [leftGo] at e
  rw [List.all_cons, Bool.and_eq_true] at ha
  obtain ⟨L1, e1, e2⟩ := Option.bind_eq_some_iff.1 e
  have hp := ha.1
  unfold scanOkM at hp
  rw [Bool.and_eq_true] at hp
  have q := pass_of hp.2
  refine (tellC_finer _ _ q.2.2.2.1 ?_ _ _ s.f0 L L1 e1).trans (leftGo_finer n ss L1 L' ha.2 e2)
  by_cases h3 : s.f3 > 0
  ·rw [if_pos h3]; omega
  ·rw [if_neg h3]; omega
theorem leftGo_append : ∀ (a b : List SN) (L : List (List Int)), leftGo (a ++ b) L = (leftGo a L).bind (leftGo b)
 | [], b, L => rfl
 | s :: a, b, L => by
  rw [List.cons_append, leftGo, leftGo, Option.bind_assoc]
  congr 1
  funext L1
  exact leftGo_append a b L1
/-- the first part of a script that tells tells, and no finer -/
theorem leftM_take {n : Nat} {script : List SN} {L : List (List Int)} (h : leftM n script = some L) (m : Nat) : ∃ L1, leftM n (script.take m) = some L1 ∧ Finer L1 L := by
 unfold leftM at h
 split at h
 ·rename_i hq
  have h2 := hq.2
  rw [← List.take_append_drop m script] at h h2
  rw [List.all_append, Bool.and_eq_true] at h2
  rw [leftGo_append] at h
  obtain ⟨L1, e1, e2⟩ := Option.bind_eq_some_iff.1 h
  refine ⟨L1, ?_, leftGo_finer n _ L1 L h2.2 e2⟩
  unfold leftM
  rw [if_pos ⟨by rw [zQ]; omega, h2.1⟩]
  exact e1
 ·cases h
theorem scriptM_fin {n : Nat} {kind : Int} (n1 : 1 ≤ n) (n4 : n ≤ 4) (k0 : 0 ≤ kind) (k2 : kind ≤ 2) : ∃ (a : Fin 4) (b : Fin 3), n = a.val + 1 ∧ kind = (b.val : Int) :=
 ⟨⟨n - 1, by omega⟩, ⟨kind.toNat, by omega⟩, by show n = n - 1 + 1; omega, by show kind = ((kind.toNat : Nat) : Int); omega⟩
theorem scriptM_whole {n : Nat} {kind : Int} (n1 : 1 ≤ n) (n4 : n ≤ 4) (k0 : 0 ≤ kind) (k2 : kind ≤ 2) : isWholeM (leftM n (scriptM n kind)) = true := by
 obtain ⟨a, b, rfl, rfl⟩ := scriptM_fin n1 n4 k0 k2
 exact whole_dec a b
theorem scriptM_twice {n : Nat} {kind : Int} (n1 : 1 ≤ n) (n4 : n ≤ 4) (k0 : 0 ≤ kind) (k2 : kind ≤ 2) : leftM n (scriptM n kind ++ (scriptM n kind).take 1) = none := by
 obtain ⟨a, b, rfl, rfl⟩ := scriptM_fin n1 n4 k0 k2
 exact Option.isNone_iff_eq_none.1 (twice_dec a b)
theorem scriptM_long {n : Nat} {kind : Int} (n1 : 1 ≤ n) (n4 : n ≤ 4) (k0 : 0 ≤ kind) (k2 : kind ≤ 2) : 0 < (scriptM n kind).length := by
 obtain ⟨a, b, rfl, rfl⟩ := scriptM_fin n1 n4 k0 k2
 exact long_dec a b
end Go.Proofs.Ytilimpjcdeeaiaa.G


namespace Go.Proofs.Ytilimpjcdeeaiaa.G
open Go.RowKit Go.Proofs.YtilimpjcdeeaiaaW.PrintWords Go.Proofs.YtilimpjcdeeaiaaW.PrintLast Go.Proofs.YtilimpjcdeeaiaaW.PrintMore
attribute [local go_sem] max2_int min2_int max_two min_two max_three min_three max_four min_four   -- for this text's walks alone
--import Derived.Deep.RegionLaw
--import Derived.BigRegion
--import Derived.IntWalk
/- The law FnScripts: whatever the code, it answers true and writes into nothing that was there. No condition. -/
def leftV (p wd hg rs : Int) (l : List SC) (s : List SN) : List (List Int) := if frameOkM p wd hg rs l = true then (leftRes (leftM l.length s)).1 else []
theorem getD_rd (x : List Int) (k : Nat) (h : k < x.length) : x.getD k (-1) = rd x (k : Int) := by simp [rd, h]
theorem impl_LeftOf.told (p wd hg rs : Int) (l : List SC) (s : List SN) (hs : s.length ≤ 2000000) (hr : ∀ x ∈ s, x.f0.length ≤ 2000000) : impl_LeftOf.f p wd hg rs l s = some (leftV p wd hg rs l s) := by
 unfold impl_LeftOf.f leftV
 rw [show impl_FrameOk.f p wd hg rs l = some (frameOkM p wd hg rs l) from rfl, zS]
 by_cases hF : frameOkM p wd hg rs l = true
 ·rw [if_pos hF, if_pos hF]
  have e : impl_leftOf.f p wd hg rs l s = some (leftRes (leftM l.length s)) := by unfold impl_leftOf.f; rw [if_pos ⟨hF, hs, hr⟩]
  rw [e, zS]
 ·rw [if_neg hF, if_neg hF]
theorem spec_LeftOf.told (p wd hg rs : Int) (l : List SC) (s : List SN) (hs : s.length ≤ 2000000) (hr : ∀ x ∈ s, x.f0.length ≤ 2000000) : Ev (fun k => spec_LeftOf.f k p wd hg rs l s) (leftV p wd hg rs l s) := by
 unfold spec_LeftOf.f leftV
 have h := Ev.bind (spec_l12Left.ev s p wd hg rs l hs hr) (f := fun _ bt => some bt.1) (Ev.now _)
 by_cases hF : frameOkM p wd hg rs l = true
 ·rw [if_pos hF] at h ⊢; exact h
 ·rw [if_neg hF] at h ⊢; exact h
theorem leftV_rows {p wd hg rs : Int} {l : List SC} {s : List SN} : ∃ n, n ≤ 4 ∧ Rows64 n (leftV p wd hg rs l s) := by
 unfold leftV
 by_cases hF : frameOkM p wd hg rs l = true
 ·rw [if_pos hF]
  cases hL : leftM l.length s with
  | none => exact ⟨0, by decide, rfl, fun x hx => by cases hx⟩
  | some L => exact ⟨l.length, (frameOk_len hF).2, leftM_rows hL⟩
 ·rw [if_neg hF]
  exact ⟨0, by decide, rfl, fun x hx => by cases hx⟩
theorem laws_sameScan.same (s : SN) (hr : s.f0.length ≤ 281474976710656) : Ev (fun k => laws_sameScan.f k s.f0 s.f1 s.f2 s.f3 s.f4 s.f0 s.f1 s.f2 s.f3 s.f4) true := by
 unfold laws_sameScan.f
 refine Ev.bind (laws_sameInts.same _ hr) (Ev.ip rfl (Ev.ip rfl (Ev.ip rfl (Ev.ip rfl ?_))))
 rw [show (s.f4 == s.f4) = true from beq_self_eq_true _]
 exact Ev.now _
theorem laws_sameScript.l0_ev (a : List SN) (ha : a.length ≤ 281474976710656) (hr : ∀ x ∈ a, x.f0.length ≤ 281474976710656) : ∀ (d i : Nat), i + d = a.length → Ev (fun k => laws_sameScript.l0 k a a (i : Int)) true := by
 intro d
 induction d with
 | zero =>
  intro i hi
  exact Ev.step (fun _ => by rw [laws_sameScript.l0]) (Ev.ng (by omega) (Ev.now _))
 | succ d ih =>
  intro i hi
  have h : i < a.length := by omega
  refine Ev.step (fun _ => by rw [laws_sameScript.l0]) (Ev.ip (by omega) (Ev.ip (by omega) (Ev.ip (by omega) ?_)))
  rw [show rd_T38 a (i : Int) = a[i] by unfold rd_T38; rw [Int.toNat_natCast, List.getD_eq_getElem?_getD, List.getElem?_eq_getElem h]; rfl]
  refine Ev.bind (laws_sameScan.same _ (hr _ (List.getElem_mem h))) (Ev.ip rfl ?_)
  rw [wrap_succ i (by omega)]
  exact ih (i + 1) (by omega)
theorem laws_sameScript.same (a : List SN) (ha : a.length ≤ 281474976710656) (hr : ∀ x ∈ a, x.f0.length ≤ 281474976710656) : Ev (fun k => laws_sameScript.f k a a) true := Ev.ip rfl (laws_sameScript.l0_ev a ha hr a.length 0 (Nat.zero_add _))
theorem script_small (p wd hg rs : Int) (l : List SC) (kind : Int) : (scriptForM p wd hg rs l kind).length ≤ 100 ∧ ∀ x ∈ scriptForM p wd hg rs l kind, x.f0.length ≤ 5 := FitS.script p wd hg rs l kind
theorem script_ok (p wd hg rs : Int) (l : List SC) {kind : Int} (k0 : 0 ≤ kind) (k2 : kind ≤ 2) : scriptOkM p wd hg rs l (scriptForM p wd hg rs l kind) = frameOkM p wd hg rs l := by
 unfold scriptOkM scriptForM
 by_cases hF : frameOkM p wd hg rs l = true
 ·obtain ⟨n1, n4⟩ := frameOk_len hF
  rw [if_pos ⟨hF, k0, k2⟩, hF, Bool.true_and]
  exact scriptM_whole n1 n4 k0 k2
 ·rw [Bool.eq_false_iff.2 hF, Bool.false_and]
theorem script_twice {p wd hg rs : Int} {l : List SC} (hF : frameOkM p wd hg rs l = true) {kind : Int} (k0 : 0 ≤ kind) (k2 : kind ≤ 2) : ∃ x r, scriptForM p wd hg rs l kind = x :: r ∧ leftV p wd hg rs l (x :: r ++ [x]) = [] := by
 obtain ⟨n1, n4⟩ := frameOk_len hF
 have e : scriptForM p wd hg rs l kind = scriptM l.length kind := if_pos ⟨hF, k0, k2⟩
 have h1 := scriptM_long n1 n4 k0 k2
 have h2 := scriptM_twice n1 n4 k0 k2
 rw [e]
 cases hx : scriptM l.length kind with
 | nil => rw [hx] at h1; cases h1
 | cons x r =>
  rw [hx] at h2
  refine ⟨x, r, rfl, ?_⟩
  unfold leftV
  rw [if_pos hF, show leftM l.length (x :: r ++ [x]) = none from h2]
  rfl
/-- half of the scans leave no less -/
theorem left_half {p wd hg rs : Int} {l : List SC} {s : List SN} (h : leftV p wd hg rs l s ≠ []) (m : Nat) : (leftV p wd hg rs l (s.take m)).length = (leftV p wd hg rs l s).length ∧ Finer (leftV p wd hg rs l (s.take m)) (leftV p wd hg rs l s) := by
 unfold leftV at h ⊢
 by_cases hF : frameOkM p wd hg rs l = true
 ·rw [if_pos hF] at h
  rw [if_pos hF, if_pos hF]
  cases hL : leftM l.length s with
  | none => rw [hL] at h; exact absurd rfl h
  | some L =>
   obtain ⟨L1, e1, e2⟩ := leftM_take hL m
   rw [e1]
   exact ⟨(leftM_rows e1).1.trans (leftM_rows hL).1.symm, e2⟩
 ·rw [if_neg hF] at h; exact absurd rfl h
section
variable {ev : Operand → Value} {w : World} {dst : Option Tmp} {ty : TypeId} {pos : String} {aft : Array Edge} {gd : Option (Nat × Bool)}
theorem run_loadFrame {x : Operand} {g : Nat} {p wd hg rs : Int} {v : Value} (hx : ev x = .pointer (some ⟨g, 0, none⟩)) (hc : w.cell? ⟨g, 0, none⟩ = some (.int .i64 p) ∧ w.cell? ⟨g, 1, none⟩ = some (.int .i64 wd) ∧ w.cell? ⟨g, 2, none⟩ = some (.int .i64 hg) ∧ w.cell? ⟨g, 3, none⟩ = some (.int .i64 rs) ∧ w.cell? ⟨g, 4, none⟩ = some v) : (execOp ev ⟨dst, .load 26 x, ty, pos, aft, gd⟩).run Try.prog w = .ok (.value (.agg #[.int .i64 p, .int .i64 wd, .int .i64 hg, .int .i64 rs, v])) w := by
 obtain ⟨q0, q1, q2, q3, q4⟩ := hc
 go_simp
theorem run_pickOff {x y z : Operand} {v : Value} (hx : ev x = .bool false) (hz : ev z = v) : (execOp ev ⟨dst, .pick x y z, ty, pos, aft, gd⟩).run Try.prog w = .ok (.value v) w := by
 go_simp
theorem run_pickOn {x y z : Operand} {v : Value} (hx : ev x = .bool true) (hy : ev y = v) : (execOp ev ⟨dst, .pick x y z, ty, pos, aft, gd⟩).run Try.prog w = .ok (.value v) w := by
 go_simp
theorem run_lenS {x : Operand} {A : Option Addr} {n c : Nat} {t : TypeId} (ht : t = 27 ∨ t = 34) (hx : ev x = .slice A n c) : (execOp ev ⟨dst, .call { callee := .builtin .len, args := #[x], argTypes := #[t] }, 3, pos, aft, gd⟩).run Try.prog w = .ok (.value (.int .i64 (n : Int))) w := by
 rcases ht with rfl | rfl
 ·go_simp
 ·go_simp
theorem run_gtr0 {x z : Operand} {n : Int} (hx : ev x = .int .i64 n) (hz : ev z = .int .i64 0) (h : 0 < n) : (execOp ev ⟨dst, .binOp .gtr 3 x z 3, ty, pos, aft, gd⟩).run Try.prog w = .ok (.value (.bool true)) w := by
 go_simp
theorem run_index0 {s z : Operand} {k n cp : Nat} {t : TypeId} (ht : t = 27) (hs : ev s = .slice (some ⟨k, 0, none⟩) n cp) (hz : ev z = .int .i64 0) (h1 : (0 : Int) < n) : (execOp ev ⟨dst, .indexAddr t s z, ty, pos, aft, gd⟩).run Try.prog w = .ok (.value (.pointer (some ⟨k, 0, none⟩))) w := by
 subst ht
 have h2 : 0 < n := by omega
 go_simp
theorem run_loadScan {x : Operand} {g : Nat} {v : Value} {p1 p2 p3 p4 : Int} (hx : ev x = .pointer (some ⟨g, 0, none⟩)) (hc : w.cell? ⟨g, 0, none⟩ = some v ∧ w.cell? ⟨g, 1, none⟩ = some (.int .i64 p1) ∧ w.cell? ⟨g, 2, none⟩ = some (.int .i64 p2) ∧ w.cell? ⟨g, 3, none⟩ = some (.int .i64 p3) ∧ w.cell? ⟨g, 4, none⟩ = some (.int .i64 p4)) : (execOp ev ⟨dst, .load 38 x, ty, pos, aft, gd⟩).run Try.prog w = .ok (.value (.agg #[v, .int .i64 p1, .int .i64 p2, .int .i64 p3, .int .i64 p4])) w := by
 obtain ⟨q0, q1, q2, q3, q4⟩ := hc
 go_simp
theorem run_litScan {x : Operand} {A : Option Addr} {n c : Nat} {p1 p2 p3 p4 : Int} (hx : ev x = .agg #[.slice A n c, .int .i64 p1, .int .i64 p2, .int .i64 p3, .int .i64 p4]) : (execOp ev ⟨dst, .buildSlice 27 1 #[(0, x)], ty, pos, aft, gd⟩).run Try.prog w = .ok (.value (.slice (some ⟨w.heap.size, 0, none⟩) 1 1)) (w.alloc (.cells [.slice A n c, .int .i64 p1, .int .i64 p2, .int .i64 p3, .int .i64 p4].toArray 38)) := by
 go_simp
theorem run_neq0 {x z : Operand} (hx : ev x = .int .i64 0) (hz : ev z = .int .i64 0) : (execOp ev ⟨dst, .binOp .neq 3 x z 3, ty, pos, aft, gd⟩).run Try.prog w = .ok (.value (.bool false)) w := by
 go_simp
theorem call_leftOf (args : Array Value) (W : World) : (callFunc 14 args).run Try.prog W = .ok (.enter 14 args) W := by go_simp
theorem call_frameOk (args : Array Value) (W : World) : (callFunc 12 args).run Try.prog W = .ok (.enter 12 args) W := by go_simp
end
/-- what is known in region 10, where the frame is not ok -/
def offL (v : Value) : List FactD := [⟨0, none, 39, fun u _ => u = v⟩, ⟨1, none, 40, fun u _ => u = .bool false⟩, ⟨2, none, 41, fun u _ => u = .bool false⟩, ⟨6, none, 45, fun u _ => u = .bool false⟩, ⟨7, none, 46, fun u _ => u = .bool false⟩, ⟨18, none, 57, fun u _ => u = .bool false⟩]
theorem offS (v : Value) : BelowD (offL v) := by
 intro f hf w w' _ u h
 simp only [offL, List.mem_cons, List.not_mem_nil, or_false] at hf
 rcases hf with rfl | rfl | rfl | rfl | rfl | rfl <;> exact h
/-- what is known in region 10, where the frame is ok -/
def onL (wr : World) (g6 c6 : Nat) (x : List SN) (y : SN) (vf : Value) (Ay : Option Addr) (cy : Nat) : List FactD := [⟨0, none, 39, fun u _ => u = vf⟩, ⟨1, none, 40, fun u _ => u = .bool true⟩, ⟨2, none, 41, fun u _ => u = .bool true⟩, ⟨3, none, 42, fun u _ => u = .slice (some ⟨g6, 0, none⟩) x.length c6⟩, ⟨4, none, 43, fun u _ => u = .int .i64 (x.length : Int)⟩, ⟨5, none, 44, fun u _ => u = .bool true⟩, ⟨6, none, 45, fun u _ => u = .bool true⟩, ⟨7, none, 46, fun u _ => u = .bool true⟩, ⟨8, none, 47, fun u _ => u = vf⟩, ⟨9, none, 48, fun u _ => u = .slice (some ⟨g6, 0, none⟩) x.length c6⟩, ⟨10, none, 49, fun u _ => u = .slice (some ⟨g6, 0, none⟩) x.length c6⟩, ⟨11, none, 50, fun u _ => u = .pointer (some ⟨g6, 0, none⟩)⟩, ⟨12, none, 51, fun u _ => u = .agg #[.slice Ay y.f0.length cy, .int .i64 y.f1, .int .i64 y.f2, .int .i64 y.f3, .int .i64 y.f4]⟩, ⟨13, some 14, 52, fun u W => ∃ (A : Option Addr) (c : Nat), u = .slice A 1 c ∧ Kd.F k38 W (fun k => wr.heap.size ≤ k ∧ k ≠ g6) A 1 [y]⟩, ⟨14, some 15, 53, fun u W => ∃ (A : Option Addr) (c : Nat), u = .slice A (x ++ [y]).length c ∧ (x ++ [y]).length ≤ c ∧ Kd.C k38 W A (x ++ [y]).length (x ++ [y])⟩, ⟨15, none, 54, fun u _ => ∃ (A : Option Addr) (c : Nat), u = .slice A 0 c⟩, ⟨16, none, 55, fun u _ => u = .int .i64 0⟩, ⟨17, none, 56, fun u _ => u = .bool false⟩, ⟨18, none, 57, fun u _ => u = .bool false⟩]
theorem onS (wr : World) (g6 c6 : Nat) (x : List SN) (y : SN) (vf : Value) (Ay : Option Addr) (cy : Nat) : BelowD (onL wr g6 c6 x y vf Ay cy) := by
 intro f hf w w' hb u h
 simp only [onL, List.mem_cons, List.not_mem_nil, or_false] at hf
 rcases hf with rfl | rfl | rfl | rfl | rfl | rfl | rfl | rfl | rfl | rfl | rfl | rfl | rfl | rfl | rfl | rfl | rfl | rfl | rfl
 all_goals first
  | exact h
  | (obtain ⟨A, c, h1, h2⟩ := h; exact ⟨A, c, h1, Kd.F_below h2 hb⟩)
  | (obtain ⟨A, c, h1, h2, h3⟩ := h; exact ⟨A, c, h1, h2, Kd.C_below h3 hb⟩)
/-- .. and of them what an append leaves -/
theorem onS14 (wr : World) (g6 c6 : Nat) (x : List SN) (y : SN) (vf : Value) (Ay : Option Addr) (cy : Nat) (W W' : World) : ∀ f ∈ onL wr g6 c6 x y vf Ay cy, f.op ≠ 14 → f.dead ≠ some 14 → ∀ v, f.P v W → f.P v W' := by
 intro f hf h1 h2 u h
 simp only [onL, List.mem_cons, List.not_mem_nil, or_false] at hf
 rcases hf with rfl | rfl | rfl | rfl | rfl | rfl | rfl | rfl | rfl | rfl | rfl | rfl | rfl | rfl | rfl | rfl | rfl | rfl | rfl
 all_goals first
  | exact absurd rfl h1
  | exact absurd rfl h2
  | exact h
/-- the state in it: the scans are as they were till the append -/
structure OnK (wr : World) (g6 c6 : Nat) (x : List SN) (y : SN) (Ay : Option Addr) (cy : Nat) (L : Nat → Bool) (W : World) : Prop where
 b : Below wr.heap.size wr W
 o1 : L 14 = true → L 13 = true
 o2 : L 13 = true → L 12 = true
 n : L 14 = false → Kd.N k38 38 W wr.heap.size (fun k => wr.heap.size ≤ k) (.slice (some ⟨g6, 0, none⟩) x.length c6) x ∧ Kd.FK k38 W (fun k => wr.heap.size ≤ k ∧ k ≠ g6) y [.slice Ay y.f0.length cy, .int .i64 y.f1, .int .i64 y.f2, .int .i64 y.f3, .int .i64 y.f4] ∧
  (W.cell? ⟨g6, 0, none⟩ = some (.slice Ay y.f0.length cy) ∧ W.cell? ⟨g6, 1, none⟩ = some (.int .i64 y.f1) ∧ W.cell? ⟨g6, 2, none⟩ = some (.int .i64 y.f2) ∧ W.cell? ⟨g6, 3, none⟩ = some (.int .i64 y.f3) ∧ W.cell? ⟨g6, 4, none⟩ = some (.int .i64 y.f4))
theorem OnK.below {wr W W' : World} {g6 c6 : Nat} {x : List SN} {y : SN} {Ay : Option Addr} {cy : Nat} {L L' : Nat → Bool} (h : OnK wr g6 c6 x y Ay cy L W) (hb : Below W.heap.size W W') (hL : L' 14 = false → L 14 = false) (ho1 : L' 14 = true → L' 13 = true) (ho2 : L' 13 = true → L' 12 = true) : OnK wr g6 c6 x y Ay cy L' W' :=
 ⟨h.b.trans (hb.mono h.b.size), ho1, ho2, fun h14 => by
  obtain ⟨h1, h2, c0, c1, c2, c3, c4⟩ := h.n (hL h14)
  exact ⟨Kd.N_below h1 hb, Kd.FK_below h2 hb, pw_cell_below hb c0, pw_cell_below hb c1, pw_cell_below hb c2, pw_cell_below hb c3, pw_cell_below hb c4⟩⟩
structure LwK (w W : World) (gf : Nat) (p wd hg rs : Int) (A : Option Addr) (cp : Nat) (l : List SC) (A2 : Option Addr) (c2 : Nat) (s : List SN) : Prop where
 b : Below w.heap.size w W
 f : W.heap[gf]? = some (.cells #[.int .i64 p, .int .i64 wd, .int .i64 hg, .int .i64 rs, .slice A l.length cp] 26 (0, 0))
 c : Kd.C k102 W A l.length l
 lc : l.length ≤ cp
 ls : Kd.C k38 W A2 s.length s
 sc : s.length ≤ c2
theorem LwK.below {w W W' : World} {gf : Nat} {p wd hg rs : Int} {A : Option Addr} {cp : Nat} {l : List SC} {A2 : Option Addr} {c2 : Nat} {s : List SN} (h : LwK w W gf p wd hg rs A cp l A2 c2 s) (hb : Below W.heap.size W W') : LwK w W' gf p wd hg rs A cp l A2 c2 s :=
 ⟨h.b.trans (hb.mono h.b.size), (hb.block gf (blk_lt h.f)).trans h.f, Kd.C_below h.c hb, h.lc, Kd.C_below h.ls hb, h.sc⟩
theorem LwK.cells {w W : World} {gf : Nat} {p wd hg rs : Int} {A : Option Addr} {cp : Nat} {l : List SC} {A2 : Option Addr} {c2 : Nat} {s : List SN} (h : LwK w W gf p wd hg rs A cp l A2 c2 s) : W.cell? ⟨gf, 0, none⟩ = some (.int .i64 p) ∧ W.cell? ⟨gf, 1, none⟩ = some (.int .i64 wd) ∧ W.cell? ⟨gf, 2, none⟩ = some (.int .i64 hg) ∧ W.cell? ⟨gf, 3, none⟩ = some (.int .i64 rs) ∧ W.cell? ⟨gf, 4, none⟩ = some (.slice A l.length cp) :=
 ⟨zK h.f 0, zK h.f 1, zK h.f 2, zK h.f 3, zK h.f 4⟩
set_option maxRecDepth 100000 in
set_option maxHeartbeats 4000000 in
theorem laws_FnScripts.law (A0 : Option Addr) (c0 : Nat) (l0 : List Int) (w : World) (hr0 : Kd.C (Kd.int .u8) w A0 l0.length l0) (hc0 : l0.length ≤ c0) (hw0 : l0.length ≤ 9223372036854775807 ∧ ∀ x_ ∈ l0, (Lit.int .u8 x_).wf = true) :
  Calls Try.prog 3 #[.slice A0 l0.length c0] w fun e w' => e = .returned (.bool true) ∧ Below w.heap.size w w' := by
 have HR := zA hr0
 have HBY := zA (show ∀ x ∈ l0, 0 ≤ x ∧ x ≤ 255 from fun x hx => by have h := hw0.2 x hx; simp [Lit.wf] at h; rw [show IntKind.u8.min = 0 from rfl, show IntKind.u8.max = 255 from rfl] at h; omega)
 clear hr0 hw0
 have HB0 := zA (Below.refl w.heap.size w)
 go_enter Try.func3, Try.ntmps3
 by_cases hbig : (l0.length : Int) > 1048576
 ·have hd : laws_big.f l0 = some true := by unfold laws_big.f; rw [zT hbig]
  have HD := zA hd
  clear hd hbig
  go_wp2_with (first | (go_at_call 7; go_loud (refine (laws_big.calls A0 c0 l0 true _ HR.out hc0 HD.out).mono ?_; rintro e w2 ⟨rfl, ⟨nd, rfl⟩⟩)))
  go_ret
  exact ⟨rfl, zB (Below.refl _ _) _⟩
 ·have hd : laws_big.f l0 = some false := by unfold laws_big.f; rw [decide_eq_false hbig]
  have HD := zA hd
  have hl0 : l0.length ≤ 1048576 := by omega
  clear hd hbig
  go_upto_region 4 with (first | (go_at_call 7; go_loud (refine (laws_big.calls A0 c0 l0 false _ HR.out hc0 HD.out).mono ?_; rintro e w2 ⟨rfl, ⟨nd, rfl⟩⟩)) | (go_at_call 8; go_loud (refine (drawLeftOf_calls A0 c0 l0 _ (yL HR.out _) hc0 HBY.out hl0).mono ?_; rintro e w3 ⟨p, wd, hg, rs, A, A2, cp, c2, l, s, rfl, hC, hlc, h5, hS, hsc, hs2, hss, hb⟩; have HC := zA hC; have HS := zA hS; have HSS := zA hss; have HB := zA hb; clear hC hS hss hb)))
  refine gen_world (P := fun W => Aside0 (LwK w W w3.heap.size p wd hg rs A cp l A2 c2 s)) ⟨⟨zC (Below.trans (zB (Below.refl _ _) nd) HB.out) _, blk_new _ _, yN HC.out _, hlc, yN HS.out _, hsc⟩⟩ (fun W4 HK => ?_)
  clear HC HS HB HD HR
  generalize w3.heap.size = gf at HK ⊢
  go_wp2_with (fail)
  go_loopw [5] (fun v5 w' => ∃ i : Nat, v5 = .int .i64 i ∧ i ≤ 3 ∧ Aside0 (LwK w w' gf p wd hg rs A cp l A2 c2 s)) (fun v5 w' => 3 - (intOf v5).toNat)
  case atStart => exact ⟨0, rfl, by omega, HK⟩
  case round =>
   clear HK
   obtain ⟨i, rfl, hi3, HK⟩ := hrel
   by_cases hlt : i < 3
   ·obtain ⟨q0, q1, q2, q3, q4⟩ := HK.out.cells
    have hlc2 := HK.out.lc
    have HX := zA (script_small p wd hg rs l (i : Int))
    have HOK := zA (script_ok p wd hg rs l (kind := (i : Int)) (by omega) (by omega))
    obtain ⟨x, hx⟩ : ∃ x, x = scriptForM p wd hg rs l (i : Int) := ⟨_, rfl⟩
    rw [← hx] at HX HOK
    have HXE := zA hx
    clear hx
    have HBr := zA (Below.refl wr.heap.size wr)
    go_upto_region 8 with (first | (go_at_call 9; go_loud (refine (impl_ScriptFor.calls p wd hg rs A cp l (i : Int) x _ HK.out.c HK.out.lc (by unfold impl_ScriptFor.f; rw [HXE.out])).mono ?_; rintro e w5 ⟨v, rfl, hN, hb⟩; obtain ⟨A6, c6, rfl⟩ := Kd.N_slice hN; replace HBr := zA (HBr.out.trans (hb.mono HBr.out.size)); have HN := zA hN; clear hb hN q0 q1 q2 q3 q4; obtain ⟨q0, q1, q2, q3, q4⟩ := (HK.out.below HBr.out).cells)))
    obtain ⟨ks, hks⟩ := (spec_ScriptFor.ev p wd hg rs l (i : Int)).rounds
    obtain ⟨km, hkm⟩ := (laws_sameScript.same x (by have := HX.out.1; omega) (fun z hz => by have := HX.out.2 z hz; omega)).rounds
    obtain ⟨kf, hkf⟩ := (spec_FrameOk.ev p wd hg rs l).rounds
    have HKS := zA (show spec_ScriptFor.f ks p wd hg rs l (i : Int) = some x by rw [hks, HXE.out])
    have HKM := zA hkm
    have HSO := zA (show impl_ScriptOk.f p wd hg rs l x = some (frameOkM p wd hg rs l) by rw [impl_ScriptOk.val p wd hg rs l x (by have := HX.out.1; omega) (fun z hz => by have := HX.out.2 z hz; omega), HOK.out])
    have HTW := zA (show frameOkM p wd hg rs l = true → ∃ y r, x = y :: r ∧ leftV p wd hg rs l (y :: r ++ [y]) = [] from fun h => by rw [HXE.out]; exact script_twice h (by omega) (by omega))
    have HKF := zA hkf
    clear hks hkm hkf
    have hxc := (Kd.N_reads' HN.out).2.1
    generalize hfo : frameOkM p wd hg rs l = fo at HKF HSO HTW
    have HFO := zA hfo
    clear hfo
    go_region_held3 (fun w' => w'.cell? ⟨gf, 0, none⟩ = some (.int .i64 p) ∧ w'.cell? ⟨gf, 1, none⟩ = some (.int .i64 wd) ∧ w'.cell? ⟨gf, 2, none⟩ = some (.int .i64 hg) ∧ w'.cell? ⟨gf, 3, none⟩ = some (.int .i64 rs) ∧ w'.cell? ⟨gf, 4, none⟩ = some (.slice A l.length cp)) (first | exact (HK.out.below HBr.out).cells | (go_keep; done)) (first | (go_at_call 11; go_loud (refine (spec_ScriptFor.calls ks p wd hg rs A cp l (i : Int) x _ (yM (HK.out.below HBr.out).c) hlc2 HKS.out).mono ?_; rintro e w6 ⟨v, rfl, hN2, hb2⟩; obtain ⟨A7, c7, rfl⟩ := Kd.N_slice hN2; have hb := below_then (below_drew (Below.refl _ w5)) (Nat.le_refl _) hb2; replace HBr := zA (HBr.out.trans (hb.mono HBr.out.size)); replace HN := zA (Kd.N_below HN.out hb); have HYC := zA (Kd.N_reads' hN2).2.2; have hyc := (Kd.N_reads' hN2).2.1; clear hb hb2 hN2 q0 q1 q2 q3 q4)) | (go_at_call 10; go_loud (refine (laws_sameScript.calls km A6 c6 x A7 c7 x true _ (Kd.N_reads' HN.out).2.2 hxc HYC.out hyc HKM.out).mono ?_; rintro e w7 ⟨rfl, hb⟩; replace HBr := zA (HBr.out.trans (hb.mono HBr.out.size)); replace HN := zA (Kd.N_below HN.out hb); clear hb)) | (go_at_call 12; go_loud (refine (spec_FrameOk.calls kf p wd hg rs A cp l fo _ (HK.out.below HBr.out).c hlc2 HKF.out).mono ?_; rintro e w8 ⟨rfl, hb2⟩; have hb := hb2; replace HBr := zA (HBr.out.trans (hb.mono HBr.out.size)); replace HN := zA (Kd.N_below HN.out hb); clear hb hb2 )) | (go_at_call 13; go_loud (refine (impl_ScriptOk.calls p wd hg rs A cp l A6 c6 x fo _ (HK.out.below HBr.out).c hlc2 (Kd.N_reads' HN.out).2.2 hxc HSO.out).mono ?_; rintro e w9 ⟨rfl, hb⟩; replace HBr := zA (HBr.out.trans (hb.mono HBr.out.size)); replace HN := zA (Kd.N_below HN.out hb); clear hb)))
    obtain ⟨q0, q1, q2, q3, q4⟩ := (HK.out.below HBr.out).cells
    clear HYC HKS HKM HSO hyc
    cases fo
    ·go_upto_region 10 with (fail)
     refine gen_act (K := fun a => Code.wp _ _ _ a _) (fun a0 ha0 => ?_)
     have hsz0 : a0.tmps.size = 132 := by rw [ha0]; rfl
     have h0_3 : a0.eval (.tmp 3) = .pointer (some ⟨gf, 0, none⟩) := by rw [ha0]; rfl
     refine wp_region_inv (RegG 132 [39, 40, 41, 42, 43, 44, 45, 46, 47, 48, 49, 50, 51, 52, 53, 54, 55, 56, 57] (offL (.agg #[.int .i64 p, .int .i64 wd, .int .i64 hg, .int .i64 rs, .slice A l.length cp])) (fun _ W => Below wr.heap.size wr W) a0) (by kernel_rfl) (by kernel_rfl) ?start ?steps ?done
     case start => exact fun L hL => RegG.start (n := 19) hsz0 hL rfl (below_drew HBr.out)
     case steps =>
      refine ⟨?_, ⟨?_, ⟨?_, ⟨?_, ⟨?_, ⟨?_, ⟨?_, ⟨?_, ⟨?_, ⟨?_, ⟨?_, ⟨?_, ⟨?_, ⟨?_, ⟨?_, ⟨?_, ⟨?_, ⟨?_, ⟨?_, trivial⟩⟩⟩⟩⟩⟩⟩⟩⟩⟩⟩⟩⟩⟩⟩⟩⟩⟩⟩
      ·refine ⟨_, rfl, fun Q K L a W hL hdep hF hK => ?_⟩
       replace hdep : ∀ d ∈ ([7, 17] : List Nat), L d = true := hdep
       have p1 := hF.fact 4 rfl (hdep 7 (by decide)) deadNo
       exact event_step rfl (run_pickOff p1 rfl) (by change K (a.put (some 57) _) _; exact hK _ _ (hF.put rfl (sameD W) hF.d rfl rfl rfl))
      ·refine ⟨_, rfl, fun Q K L a W hL hdep hF hK => ?_⟩
       replace hdep : ∀ d ∈ ([16, 7] : List Nat), L d = true := hdep
       have p1 := hF.fact 4 rfl (hdep 7 (by decide)) deadNo
       exact off_step rfl rfl p1 rfl (by change K (a.put (some 56) _) _; exact hK _ _ (hF.skip rfl (sameD W) hF.d rfl))
      ·refine ⟨_, rfl, fun Q K L a W hL hdep hF hK => ?_⟩
       replace hdep : ∀ d ∈ ([15, 7] : List Nat), L d = true := hdep
       have p1 := hF.fact 4 rfl (hdep 7 (by decide)) deadNo
       exact off_step rfl rfl p1 rfl (by change K (a.put (some 55) _) _; exact hK _ _ (hF.skip rfl (sameD W) hF.d rfl))
      ·refine ⟨_, rfl, fun Q K L a W hL hdep hF hK => ?_⟩
       replace hdep : ∀ d ∈ ([8, 14, 14, 7] : List Nat), L d = true := hdep
       have p1 := hF.fact 4 rfl (hdep 7 (by decide)) deadNo
       exact off_step rfl rfl p1 rfl (by change K (a.put (some 54) _) _; exact hK _ _ (hF.skip rfl (sameD W) hF.d rfl))
      ·refine ⟨_, rfl, fun Q K L a W hL hdep hF hK => ?_⟩
       replace hdep : ∀ d ∈ ([9, 13, 7, 7] : List Nat), L d = true := hdep
       have p1 := hF.fact 4 rfl (hdep 7 (by decide)) deadNo
       exact off_step rfl rfl p1 rfl (by change K (a.put (some 53) _) _; exact hK _ _ (hF.skip rfl (sameD W) hF.d rfl))
      ·refine ⟨_, rfl, fun Q K L a W hL hdep hF hK => ?_⟩
       replace hdep : ∀ d ∈ ([12, 7] : List Nat), L d = true := hdep
       have p1 := hF.fact 4 rfl (hdep 7 (by decide)) deadNo
       exact off_step rfl rfl p1 rfl (by change K (a.put (some 52) _) _; exact hK _ _ (hF.skip rfl (sameD W) hF.d rfl))
      ·refine ⟨_, rfl, fun Q K L a W hL hdep hF hK => ?_⟩
       replace hdep : ∀ d ∈ ([11, 7] : List Nat), L d = true := hdep
       have p1 := hF.fact 4 rfl (hdep 7 (by decide)) deadNo
       exact off_step rfl rfl p1 rfl (by change K (a.put (some 51) _) _; exact hK _ _ (hF.skip rfl (sameD W) hF.d rfl))
      ·refine ⟨_, rfl, fun Q K L a W hL hdep hF hK => ?_⟩
       replace hdep : ∀ d ∈ ([10, 7] : List Nat), L d = true := hdep
       have p1 := hF.fact 4 rfl (hdep 7 (by decide)) deadNo
       exact off_step rfl rfl p1 rfl (by change K (a.put (some 50) _) _; exact hK _ _ (hF.skip rfl (sameD W) hF.d rfl))
      ·refine ⟨_, rfl, fun Q K L a W hL hdep hF hK => ?_⟩
       replace hdep : ∀ d ∈ ([7] : List Nat), L d = true := hdep
       have p1 := hF.fact 4 rfl (hdep 7 (by decide)) deadNo
       exact off_step rfl rfl p1 rfl (by change K (a.put (some 49) _) _; exact hK _ _ (hF.skip rfl (sameD W) hF.d rfl))
      ·refine ⟨_, rfl, fun Q K L a W hL hdep hF hK => ?_⟩
       replace hdep : ∀ d ∈ ([7] : List Nat), L d = true := hdep
       have p1 := hF.fact 4 rfl (hdep 7 (by decide)) deadNo
       exact off_step rfl rfl p1 rfl (by change K (a.put (some 48) _) _; exact hK _ _ (hF.skip rfl (sameD W) hF.d rfl))
      ·refine ⟨_, rfl, fun Q K L a W hL hdep hF hK => ?_⟩
       replace hdep : ∀ d ∈ ([7] : List Nat), L d = true := hdep
       have p1 := hF.fact 4 rfl (hdep 7 (by decide)) deadNo
       exact off_step rfl rfl p1 rfl (by change K (a.put (some 47) _) _; exact hK _ _ (hF.skip rfl (sameD W) hF.d rfl))
      ·refine ⟨_, rfl, fun Q K L a W hL hdep hF hK => ?_⟩
       replace hdep : ∀ d ∈ ([6, 2] : List Nat), L d = true := hdep
       have p1 := hF.fact 3 rfl (hdep 6 (by decide)) deadNo
       exact event_step rfl (run_move p1) (by change K (a.put (some 46) _) _; exact hK _ _ (hF.put rfl (sameD W) hF.d rfl rfl rfl))
      ·refine ⟨_, rfl, fun Q K L a W hL hdep hF hK => ?_⟩
       replace hdep : ∀ d ∈ ([2, 5] : List Nat), L d = true := hdep
       have p1 := hF.fact 2 rfl (hdep 2 (by decide)) deadNo
       exact event_step rfl (run_pickOff p1 rfl) (by change K (a.put (some 45) _) _; exact hK _ _ (hF.put rfl (sameD W) hF.d rfl rfl rfl))
      ·refine ⟨_, rfl, fun Q K L a W hL hdep hF hK => ?_⟩
       replace hdep : ∀ d ∈ ([4, 2] : List Nat), L d = true := hdep
       have p1 := hF.fact 2 rfl (hdep 2 (by decide)) deadNo
       exact off_step rfl rfl p1 rfl (by change K (a.put (some 44) _) _; exact hK _ _ (hF.skip rfl (sameD W) hF.d rfl))
      ·refine ⟨_, rfl, fun Q K L a W hL hdep hF hK => ?_⟩
       replace hdep : ∀ d ∈ ([3, 2] : List Nat), L d = true := hdep
       have p1 := hF.fact 2 rfl (hdep 2 (by decide)) deadNo
       exact off_step rfl rfl p1 rfl (by change K (a.put (some 43) _) _; exact hK _ _ (hF.skip rfl (sameD W) hF.d rfl))
      ·refine ⟨_, rfl, fun Q K L a W hL hdep hF hK => ?_⟩
       replace hdep : ∀ d ∈ ([2] : List Nat), L d = true := hdep
       have p1 := hF.fact 2 rfl (hdep 2 (by decide)) deadNo
       exact off_step rfl rfl p1 rfl (by change K (a.put (some 42) _) _; exact hK _ _ (hF.skip rfl (sameD W) hF.d rfl))
      ·refine ⟨_, rfl, fun Q K L a W hL hdep hF hK => ?_⟩
       replace hdep : ∀ d ∈ ([1, 1] : List Nat), L d = true := hdep
       have p1 := hF.fact 1 rfl (hdep 1 (by decide)) deadNo
       exact event_step rfl (run_move p1) (by change K (a.put (some 41) _) _; exact hK _ _ (hF.put rfl (sameD W) hF.d rfl rfl rfl))
      ·refine ⟨_, rfl, fun Q K L a W hL hdep hF hK => ?_⟩
       replace hdep : ∀ d ∈ ([0] : List Nat), L d = true := hdep
       have p0 := hF.fact 0 rfl (hdep 0 (by decide)) deadNo
       refine stp_call1 call_frameOk p0 ((spec_FrameOk.calls kf p wd hg rs A cp l false W (HK.out.below hF.d).c hlc2 HKF.out).mono ?_)
       rintro e W2 ⟨rfl, hb⟩
       refine ⟨_, rfl, ?_⟩
       change K (a.put (some 40) _) _
       exact hK _ _ (hF.put rfl ((offS _).at_ hb) (hF.d.trans (hb.mono hF.d.size)) rfl rfl rfl)
      ·refine ⟨_, rfl, fun Q K L a W hL hdep hF hK => ?_⟩
       replace hdep : ∀ d ∈ ([] : List Nat), L d = true := hdep
       exact event_step rfl (run_loadFrame (hF.slot (t := 3) rfl h0_3) (HK.out.below hF.d).cells) (by change K (a.put (some 39) _) _; exact hK _ _ (hF.put rfl (sameD W) hF.d rfl rfl rfl))
     case done =>
      intro L a w' hL hF
      have hv := hF.fact 5 rfl (hL 18) deadNo
      have hb := hF.d
      rw [hF.s.eq]
      simp only [zV, zW, show a.eval (.tmp 57) = .bool false from hv]
      clear hF hL hv
      generalize a.eval = ev
      subst ha0
      simp only [setSlots, List.foldl_cons, List.foldl_nil, List.setIfInBounds_toArray, List.set_cons_succ, List.set_cons_zero]
      replace HBr := zA hb
      clear hb
      go_wp2_with (fail)
      go_roundw
      case rel => exact ⟨i + 1, by go_num, by omega, ⟨HK.out.below HBr.out⟩⟩
      case measure => simp [intOf]; omega
    ·obtain ⟨y, r, hxy, hlv⟩ := HTW.out rfl
     have HXY := zA hxy
     have HLV := zA hlv
     have hxp : 0 < x.length := by rw [hxy]; exact Nat.zero_lt_succ _
     have hx100 := HX.out.1
     have hxi : (0 : Int) < (x.length : Int) := by omega
     clear hxy hlv
     obtain ⟨g6, co, eo, gb6, gl6, cl6, HG6⟩ := Kd.N_form HN.out hxp
     injection eo with ea en ec
     subst ea; subst ec
     clear en HG6 cl6
     obtain ⟨cc, hcl, hFK, hcc, hfr⟩ := Kd.N_elem HN.out z38 0 (by omega) (by omega)
     obtain ⟨Ay, cy, rfl, hyc, hyF⟩ := k38_openF hFK
     have i0 := hcc 0 _ rfl
     have i1 := hcc 1 _ rfl
     have i2 := hcc 2 _ rfl
     have i3 := hcc 3 _ rfl
     have i4 := hcc 4 _ rfl
     simp only [show (k38).sz = 5 from rfl, Int.toNat_zero, Nat.zero_mul, Nat.zero_add] at i0 i1 i2 i3 i4
     have hyx : x.getD (0 : Int).toNat z38 = y := by rw [HXY.out]; rfl
     have hyx2 : x.getD 0 z38 = y := hyx
     rw [hyx] at hFK hyc hyF
     rw [hyx2] at i0 i1 i2 i3 i4
     clear hcc hcl hfr hyx hyx2 hyF
     have HFK := zA hFK
     have hyl : y.f0.length ≤ 5 := HX.out.2 y (by rw [HXY.out]; exact List.mem_cons_self)
     have HTO := zA (show impl_LeftOf.f p wd hg rs l (x ++ [y]) = some [] by rw [impl_LeftOf.told p wd hg rs l (x ++ [y]) (by rw [zX, List.length_singleton]; omega) (fun z hz => Nat.le_trans (ShortS.push (n := 5) (fun z hz => HX.out.2 z hz) hyl z hz) (by decide)), HXY.out, HLV.out])
     clear hFK
     go_upto_region 10 with (fail)
     refine gen_act (K := fun a => Code.wp _ _ _ a _) (fun a0 ha0 => ?_)
     have hsz0 : a0.tmps.size = 132 := by rw [ha0]; rfl
     have h0_3 : a0.eval (.tmp 3) = .pointer (some ⟨gf, 0, none⟩) := by rw [ha0]; rfl
     have h0_6 : a0.eval (.tmp 6) = .slice (some ⟨g6, 0, none⟩) x.length c6 := by rw [ha0]; rfl
     refine wp_region_inv (RegG 132 [39, 40, 41, 42, 43, 44, 45, 46, 47, 48, 49, 50, 51, 52, 53, 54, 55, 56, 57] (onL wr g6 c6 x y (.agg #[.int .i64 p, .int .i64 wd, .int .i64 hg, .int .i64 rs, .slice A l.length cp]) Ay cy) (OnK wr g6 c6 x y Ay cy) a0) (by kernel_rfl) (by kernel_rfl) ?start ?steps ?done
     case start => exact fun L hL => RegG.start (n := 19) hsz0 hL rfl ⟨below_drew HBr.out, fun h => absurd (h.symm.trans (hL 14 (by decide))) (by decide), fun h => absurd (h.symm.trans (hL 13 (by decide))) (by decide), fun _ => ⟨Kd.N_drew HN.out, Kd.FK_below HFK.out (below_drew (Below.refl _ _)), i0, i1, i2, i3, i4⟩⟩
     case steps =>
      refine ⟨?_, ⟨?_, ⟨?_, ⟨?_, ⟨?_, ⟨?_, ⟨?_, ⟨?_, ⟨?_, ⟨?_, ⟨?_, ⟨?_, ⟨?_, ⟨?_, ⟨?_, ⟨?_, ⟨?_, ⟨?_, ⟨?_, trivial⟩⟩⟩⟩⟩⟩⟩⟩⟩⟩⟩⟩⟩⟩⟩⟩⟩⟩⟩
      ·refine ⟨_, rfl, fun Q K L a W hL hdep hF hK => ?_⟩
       replace hdep : ∀ d ∈ ([7, 17] : List Nat), L d = true := hdep
       have p1 := hF.fact 7 rfl (hdep 7 (by decide)) deadNo
       have p2 := hF.fact 17 rfl (hdep 17 (by decide)) deadNo
       exact event_step rfl (run_pickOn p1 p2) (by change K (a.put (some 57) _) _; exact hK _ _ (hF.put rfl (sameD W) (hF.d.below (Below.refl _ _) id hF.d.o1 hF.d.o2) rfl rfl rfl))
      ·refine ⟨_, rfl, fun Q K L a W hL hdep hF hK => ?_⟩
       replace hdep : ∀ d ∈ ([16, 7] : List Nat), L d = true := hdep
       have pg := hF.fact 7 rfl (hdep 7 (by decide)) deadNo
       have p1 := hF.fact 16 rfl (hdep 16 (by decide)) deadNo
       exact event_step (on_step rfl rfl pg rfl) (run_neq0 p1 rfl) (by change K (a.put (some 56) _) _; exact hK _ _ (hF.put rfl (sameD W) (hF.d.below (Below.refl _ _) id hF.d.o1 hF.d.o2) rfl rfl rfl))
      ·refine ⟨_, rfl, fun Q K L a W hL hdep hF hK => ?_⟩
       replace hdep : ∀ d ∈ ([15, 7] : List Nat), L d = true := hdep
       have pg := hF.fact 7 rfl (hdep 7 (by decide)) deadNo
       obtain ⟨A12, c12, hu⟩ := hF.fact 15 rfl (hdep 15 (by decide)) deadNo
       exact event_step (on_step rfl rfl pg rfl) (run_lenS (.inr rfl) hu) (by change K (a.put (some 55) _) _; exact hK _ _ (hF.put rfl (sameD W) (hF.d.below (Below.refl _ _) id hF.d.o1 hF.d.o2) rfl rfl rfl))
      ·refine ⟨_, rfl, fun Q K L a W hL hdep hF hK => ?_⟩
       replace hdep : ∀ d ∈ ([8, 14, 14, 7] : List Nat), L d = true := hdep
       have pg := hF.fact 7 rfl (hdep 7 (by decide)) deadNo
       have p0 := hF.fact 8 rfl (hdep 8 (by decide)) deadNo
       obtain ⟨A9, c9, hu, hc9, hC9⟩ := hF.fact 14 rfl (hdep 14 (by decide)) (deadAt hL)
       refine stp_call2 (on_step rfl rfl pg rfl) call_leftOf p0 hu ((impl_LeftOf.calls p wd hg rs A cp l A9 c9 (x ++ [y]) [] W (HK.out.below hF.d.b).c hlc2 hC9 hc9 HTO.out).mono ?_)
       rintro e W2 ⟨v, rfl, hS, hb⟩
       obtain ⟨A12, c12, rfl⟩ := Kd.S_slice hS
       refine ⟨_, rfl, ?_⟩
       change K (a.put (some 54) _) _
       exact hK _ _ (hF.put rfl ((onS _ _ _ _ _ _ _ _).at_ hb) (hF.d.below hb id hF.d.o1 hF.d.o2) rfl rfl ⟨A12, c12, rfl⟩)
      ·refine ⟨_, rfl, fun Q K L a W hL hdep hF hK => ?_⟩
       replace hdep : ∀ d ∈ ([9, 13, 7, 7] : List Nat), L d = true := hdep
       have pg := hF.fact 7 rfl (hdep 7 (by decide)) deadNo
       have p0 := hF.fact 9 rfl (hdep 9 (by decide)) deadNo
       obtain ⟨A8, c8, hu, hFr⟩ := hF.fact 13 rfl (hdep 13 (by decide)) (deadAt hL)
       obtain ⟨hN, _, _⟩ := hF.d.n hL
       refine Kd.N_append_rows_step k38 (w0 := wr) wr.heap.size (on_step rfl rfl pg rfl) (.tmp 48) (.tmp 52) 27 38 (.agg #[.slice none 0 0, .int .i64 0, .int .i64 0, .int .i64 0, .int .i64 0]) 56 rfl Try.underlying27 info38 rfl (by decide) (by omega) _ x [y] A8 1 c8 (fun k => wr.heap.size ≤ k) (fun k => wr.heap.size ≤ k ∧ k ≠ g6) p0 hu hN hFr (fun k hk => ⟨hk.1, fun e => hk.2 (by injection e)⟩) (fun k hk => Nat.le_trans hF.d.b.size hk) hF.d.b hF.d.b.size (by omega) (fun v1 W1 ho hb hg hat => ?_)
       obtain ⟨A9, c9, rfl⟩ := Kd.N_slice ho
       change K (a.put (some 53) _) _
       exact hK _ _ (hF.put rfl (onS14 _ _ _ _ _ _ _ _ W W1) ⟨hb, fun _ => hdep 13 (by decide), hF.d.o2, fun h => absurd h (by rw [gone1_self]; decide)⟩ rfl rfl ⟨A9, c9, rfl, (Kd.N_reads' ho).2.1, (Kd.N_reads' ho).2.2⟩)
      ·refine ⟨_, rfl, fun Q K L a W hL hdep hF hK => ?_⟩
       replace hdep : ∀ d ∈ ([12, 7] : List Nat), L d = true := hdep
       have pg := hF.fact 7 rfl (hdep 7 (by decide)) deadNo
       have h14 : L 14 = false := by
        cases h : L 14 with
        | false => rfl
        | true => have := hF.d.o1 h; rw [show L 13 = false from hL] at this; cases this
       have p1 := hF.fact 12 rfl (hdep 12 (by decide)) deadNo
       obtain ⟨hN, hFK, _⟩ := hF.d.n h14
       have hgl := Kd.N_lt hN g6 (by simp [Value.ownBlock])
       have hrep : Reps (Kd.FK k38 W (fun k => wr.heap.size ≤ k ∧ k ≠ g6)) (k38).sz [y] [.slice Ay y.f0.length cy, .int .i64 y.f1, .int .i64 y.f2, .int .i64 y.f3, .int .i64 y.f4] := Reps.snoc (Reps.none _ _) hFK rfl
       refine Kd.N_lit_step k38 (w0 := wr) wr.heap.size 38 (on_step rfl rfl pg rfl) (N' := 52) rfl (ok := fun k => wr.heap.size ≤ k ∧ k ≠ g6) (run_litScan p1) hrep (fun _ hk => hk) ⟨hF.d.b.size, by omega⟩ hF.d.b hF.d.b.size (show 1 ≤ 9223372036854775807 by decide) (fun v1 W1 hN1 hb1 hg1 hat => ?_)
       obtain ⟨A8, c8, rfl⟩ := Kd.N_slice hN1
       have hb : Below W.heap.size W W1 := ⟨hg1.os, hg1.tape, hg1.output, hg1.size, fun i hi => hg1.block i hi (by simp)⟩
       change K (a.put (some 52) _) _
       exact hK _ _ (hF.put rfl ((onS _ _ _ _ _ _ _ _).at_ hb) (hF.d.below hb id (fun _ => gone1_self L 13) (fun _ => hdep 12 (by decide))) rfl rfl ⟨A8, c8, rfl, Kd.N_F hN1⟩)
      ·refine ⟨_, rfl, fun Q K L a W hL hdep hF hK => ?_⟩
       replace hdep : ∀ d ∈ ([11, 7] : List Nat), L d = true := hdep
       have pg := hF.fact 7 rfl (hdep 7 (by decide)) deadNo
       have h14 : L 14 = false := by
        cases h : L 14 with
        | false => rfl
        | true => have := hF.d.o2 (hF.d.o1 h); rw [show L 12 = false from hL] at this; cases this
       have p1 := hF.fact 11 rfl (hdep 11 (by decide)) deadNo
       exact event_step (on_step rfl rfl pg rfl) (run_loadScan p1 (hF.d.n h14).2.2) (by change K (a.put (some 51) _) _; exact hK _ _ (hF.put rfl (sameD W) (hF.d.below (Below.refl _ _) id hF.d.o1 (fun _ => gone1_self L 12)) rfl rfl rfl))
      ·refine ⟨_, rfl, fun Q K L a W hL hdep hF hK => ?_⟩
       replace hdep : ∀ d ∈ ([10, 7] : List Nat), L d = true := hdep
       have pg := hF.fact 7 rfl (hdep 7 (by decide)) deadNo
       have p1 := hF.fact 10 rfl (hdep 10 (by decide)) deadNo
       exact event_step (on_step rfl rfl pg rfl) (run_index0 rfl p1 rfl hxi) (by change K (a.put (some 50) _) _; exact hK _ _ (hF.put rfl (sameD W) (hF.d.below (Below.refl _ _) id hF.d.o1 hF.d.o2) rfl rfl rfl))
      ·refine ⟨_, rfl, fun Q K L a W hL hdep hF hK => ?_⟩
       replace hdep : ∀ d ∈ ([7] : List Nat), L d = true := hdep
       have pg := hF.fact 7 rfl (hdep 7 (by decide)) deadNo
       exact event_step (on_step rfl rfl pg rfl) (run_move (hF.slot (t := 6) rfl h0_6)) (by change K (a.put (some 49) _) _; exact hK _ _ (hF.put rfl (sameD W) (hF.d.below (Below.refl _ _) id hF.d.o1 hF.d.o2) rfl rfl rfl))
      ·refine ⟨_, rfl, fun Q K L a W hL hdep hF hK => ?_⟩
       replace hdep : ∀ d ∈ ([7] : List Nat), L d = true := hdep
       have pg := hF.fact 7 rfl (hdep 7 (by decide)) deadNo
       exact event_step (on_step rfl rfl pg rfl) (run_move (hF.slot (t := 6) rfl h0_6)) (by change K (a.put (some 48) _) _; exact hK _ _ (hF.put rfl (sameD W) (hF.d.below (Below.refl _ _) id hF.d.o1 hF.d.o2) rfl rfl rfl))
      ·refine ⟨_, rfl, fun Q K L a W hL hdep hF hK => ?_⟩
       replace hdep : ∀ d ∈ ([7] : List Nat), L d = true := hdep
       have pg := hF.fact 7 rfl (hdep 7 (by decide)) deadNo
       exact event_step (on_step rfl rfl pg rfl) (run_loadFrame (hF.slot (t := 3) rfl h0_3) (HK.out.below hF.d.b).cells) (by change K (a.put (some 47) _) _; exact hK _ _ (hF.put rfl (sameD W) (hF.d.below (Below.refl _ _) id hF.d.o1 hF.d.o2) rfl rfl rfl))
      ·refine ⟨_, rfl, fun Q K L a W hL hdep hF hK => ?_⟩
       replace hdep : ∀ d ∈ ([6, 2] : List Nat), L d = true := hdep
       have p1 := hF.fact 6 rfl (hdep 6 (by decide)) deadNo
       exact event_step rfl (run_move p1) (by change K (a.put (some 46) _) _; exact hK _ _ (hF.put rfl (sameD W) (hF.d.below (Below.refl _ _) id hF.d.o1 hF.d.o2) rfl rfl rfl))
      ·refine ⟨_, rfl, fun Q K L a W hL hdep hF hK => ?_⟩
       replace hdep : ∀ d ∈ ([2, 5] : List Nat), L d = true := hdep
       have p1 := hF.fact 2 rfl (hdep 2 (by decide)) deadNo
       have p2 := hF.fact 5 rfl (hdep 5 (by decide)) deadNo
       exact event_step rfl (run_pickOn p1 p2) (by change K (a.put (some 45) _) _; exact hK _ _ (hF.put rfl (sameD W) (hF.d.below (Below.refl _ _) id hF.d.o1 hF.d.o2) rfl rfl rfl))
      ·refine ⟨_, rfl, fun Q K L a W hL hdep hF hK => ?_⟩
       replace hdep : ∀ d ∈ ([4, 2] : List Nat), L d = true := hdep
       have pg := hF.fact 2 rfl (hdep 2 (by decide)) deadNo
       have p1 := hF.fact 4 rfl (hdep 4 (by decide)) deadNo
       exact event_step (on_step rfl rfl pg rfl) (run_gtr0 p1 rfl hxi) (by change K (a.put (some 44) _) _; exact hK _ _ (hF.put rfl (sameD W) (hF.d.below (Below.refl _ _) id hF.d.o1 hF.d.o2) rfl rfl rfl))
      ·refine ⟨_, rfl, fun Q K L a W hL hdep hF hK => ?_⟩
       replace hdep : ∀ d ∈ ([3, 2] : List Nat), L d = true := hdep
       have pg := hF.fact 2 rfl (hdep 2 (by decide)) deadNo
       have p1 := hF.fact 3 rfl (hdep 3 (by decide)) deadNo
       exact event_step (on_step rfl rfl pg rfl) (run_lenS (.inl rfl) p1) (by change K (a.put (some 43) _) _; exact hK _ _ (hF.put rfl (sameD W) (hF.d.below (Below.refl _ _) id hF.d.o1 hF.d.o2) rfl rfl rfl))
      ·refine ⟨_, rfl, fun Q K L a W hL hdep hF hK => ?_⟩
       replace hdep : ∀ d ∈ ([2] : List Nat), L d = true := hdep
       have pg := hF.fact 2 rfl (hdep 2 (by decide)) deadNo
       exact event_step (on_step rfl rfl pg rfl) (run_move (hF.slot (t := 6) rfl h0_6)) (by change K (a.put (some 42) _) _; exact hK _ _ (hF.put rfl (sameD W) (hF.d.below (Below.refl _ _) id hF.d.o1 hF.d.o2) rfl rfl rfl))
      ·refine ⟨_, rfl, fun Q K L a W hL hdep hF hK => ?_⟩
       replace hdep : ∀ d ∈ ([1, 1] : List Nat), L d = true := hdep
       have p1 := hF.fact 1 rfl (hdep 1 (by decide)) deadNo
       exact event_step rfl (run_move p1) (by change K (a.put (some 41) _) _; exact hK _ _ (hF.put rfl (sameD W) (hF.d.below (Below.refl _ _) id hF.d.o1 hF.d.o2) rfl rfl rfl))
      ·refine ⟨_, rfl, fun Q K L a W hL hdep hF hK => ?_⟩
       replace hdep : ∀ d ∈ ([0] : List Nat), L d = true := hdep
       have p0 := hF.fact 0 rfl (hdep 0 (by decide)) deadNo
       refine stp_call1 call_frameOk p0 ((spec_FrameOk.calls kf p wd hg rs A cp l true W (HK.out.below hF.d.b).c hlc2 HKF.out).mono ?_)
       rintro e W2 ⟨rfl, hb⟩
       refine ⟨_, rfl, ?_⟩
       change K (a.put (some 40) _) _
       exact hK _ _ (hF.put rfl ((onS _ _ _ _ _ _ _ _).at_ hb) (hF.d.below hb id hF.d.o1 hF.d.o2) rfl rfl rfl)
      ·refine ⟨_, rfl, fun Q K L a W hL hdep hF hK => ?_⟩
       replace hdep : ∀ d ∈ ([] : List Nat), L d = true := hdep
       exact event_step rfl (run_loadFrame (hF.slot (t := 3) rfl h0_3) (HK.out.below hF.d.b).cells) (by change K (a.put (some 39) _) _; exact hK _ _ (hF.put rfl (sameD W) (hF.d.below (Below.refl _ _) id hF.d.o1 hF.d.o2) rfl rfl rfl))
     case done =>
      intro L a w' hL hF
      have hv := hF.fact 18 rfl (hL 18) deadNo
      have hb := hF.d.b
      rw [hF.s.eq]
      simp only [zV, zW, show a.eval (.tmp 57) = .bool false from hv]
      clear hF hL hv
      generalize a.eval = ev
      subst ha0
      simp only [setSlots, List.foldl_cons, List.foldl_nil, List.setIfInBounds_toArray, List.set_cons_succ, List.set_cons_zero]
      replace HBr := zA hb
      clear hb i0 i1 i2 i3 i4
      go_wp2_with (fail)
      go_roundw
      case rel => exact ⟨i + 1, by go_num, by omega, ⟨HK.out.below HBr.out⟩⟩
      case measure => simp [intOf]; omega
   ·obtain rfl : i = 3 := by omega
    clear hlt
    obtain ⟨q0, q1, q2, q3, q4⟩ := HK.out.cells
    have hlc2 := HK.out.lc
    have hsc2 := HK.out.sc
    obtain ⟨n, hn4, hL64⟩ := leftV_rows (p := p) (wd := wd) (hg := hg) (rs := rs) (l := l) (s := s)
    have hs2m : s.length ≤ 2000000 := by omega
    have HSM := zA (show ∀ x ∈ s, x.f0.length ≤ 2000000 from fun x hx => Nat.le_trans (HSS.out x hx) (by decide))
    have HTO := zA (impl_LeftOf.told p wd hg rs l s hs2m HSM.out)
    obtain ⟨ke, hke⟩ := (spec_LeftOf.told p wd hg rs l s hs2m HSM.out).rounds
    have HKE := zA hke
    have HHF := zA (fun h : leftV p wd hg rs l s ≠ [] => left_half h (s.length / 2))
    have HTM := zA (impl_LeftOf.told p wd hg rs l (s.take (s.length / 2)) (by rw [zQ]; omega) (fun x hx => HSM.out x (List.mem_of_mem_take hx)))
    obtain ⟨n2, hn24, hL642⟩ := leftV_rows (p := p) (wd := wd) (hg := hg) (rs := rs) (l := l) (s := s.take (s.length / 2))
    clear hke
    generalize leftV p wd hg rs l (s.take (s.length / 2)) = L2 at HHF HTM hL642
    generalize leftV p wd hg rs l s = L1 at HTO HKE hL64 HHF
    have H64 := zA hL64
    have H642 := zA hL642
    have hl1 : L1.length ≤ 4 := by rw [hL64.1]; exact hn4
    clear hL64 hL642
    obtain ⟨ks, hks⟩ := (laws_sameLists.same L1 (by omega) (fun x hx => by rw [H64.out.2 x hx]; decide)).rounds
    have HKS := zA hks
    clear hks
    have HBr := zA (Below.refl wr.heap.size wr)
    go_upto_region 15 with (first | (go_at_call 14; go_loud (refine (impl_LeftOf.calls p wd hg rs A cp l A2 c2 s L1 _ HK.out.c hlc2 HK.out.ls hsc2 HTO.out).mono ?_; rintro e w5 ⟨v, rfl, hS, hb⟩; obtain ⟨A7, c7, rfl⟩ := Kd.S_slice hS; replace HBr := zA (HBr.out.trans (hb.mono HBr.out.size)); have H7 := zA (Kd.S_reads' hS).2.2; have hc7 := (Kd.S_reads' hS).2.1; clear hS hb q0 q1 q2 q3 q4; obtain ⟨q0, q1, q2, q3, q4⟩ := (HK.out.below HBr.out).cells)) | (go_at_call 16; go_loud (refine (spec_LeftOf.calls ke p wd hg rs A cp l A2 c2 s L1 _ (HK.out.below HBr.out).c hlc2 (HK.out.below HBr.out).ls hsc2 HKE.out).mono ?_; rintro e w6 ⟨v, rfl, hS, hb⟩; obtain ⟨A8, c8, rfl⟩ := Kd.S_slice hS; replace HBr := zA (HBr.out.trans (hb.mono HBr.out.size)); replace H7 := zA (Kd.C_below H7.out hb); have H8 := zA (Kd.S_reads' hS).2.2; have hc8 := (Kd.S_reads' hS).2.1; clear hS hb q0 q1 q2 q3 q4; obtain ⟨q0, q1, q2, q3, q4⟩ := (HK.out.below HBr.out).cells)) | (go_at_call 15; go_loud (refine (laws_sameLists.calls ks A7 c7 L1 A8 c8 L1 true _ H7.out hc7 H8.out hc8 HKS.out).mono ?_; rintro e w7 ⟨rfl, ⟨nd7, rfl⟩⟩)))
    have HBR := zA (zB HBr.out nd7)
    replace H7 := zA (yL H7.out nd7)
    clear HBr H8 HKS HTO HKE
    generalize w6.drewN nd7 = W9 at H7 HBR ⊢
    obtain ⟨q0, q1, q2, q3, q4⟩ := (HK.out.below HBR.out).cells
    by_cases hz1 : L1.length = 0
    ·have b1 : ((L1.length : Int) == 0) = true := by rw [hz1]; rfl
     clear hz1
     go_wp2_with (fail)
     go_ret
     exact ⟨rfl, (HK.out.below HBR.out).b⟩
    ·have b1 : ((L1.length : Int) == 0) = false := by rw [beq_eq_false_iff_ne]; omega
     by_cases hz2 : s.length = 0
     ·have b2 : ((s.length : Int) == 0) = true := by rw [hz2]; rfl
      clear hz2
      go_wp2_with (fail)
      go_ret
      exact ⟨rfl, (HK.out.below HBR.out).b⟩
     ·have b2 : ((s.length : Int) == 0) = false := by rw [beq_eq_false_iff_ne]; omega
      clear hz2
      go_upto_region 17 with (fail)
      obtain ⟨m, hm⟩ : ∃ m, m = s.length / 2 := ⟨_, rfl⟩
      rw [← hm] at HTM
      have d1 : Int.tdiv (s.length : Int) 2 = (m : Int) := by rw [hm]; rfl
      have d3 : m ≤ s.length := by omega
      have d4 : m ≤ c2 := by omega
      have d5 : (m : Int) ≤ (c2 : Int) := by omega
      clear hm
      have d2 : IntKind.i64.wrap (m : Int) = (m : Int) := IntWalk.i64_in _ (by omega)
      go_region_held3 (fun w' => w'.cell? ⟨gf, 0, none⟩ = some (.int .i64 p) ∧ w'.cell? ⟨gf, 1, none⟩ = some (.int .i64 wd) ∧ w'.cell? ⟨gf, 2, none⟩ = some (.int .i64 hg) ∧ w'.cell? ⟨gf, 3, none⟩ = some (.int .i64 rs) ∧ w'.cell? ⟨gf, 4, none⟩ = some (.slice A l.length cp)) (first | exact (HK.out.below HBR.out).cells | (go_keep; done)) (first | (go_at_call 14; go_loud (have hCT := Kd.C_take (yM (HK.out.below HBR.out).ls) d3; have hmt : (s.take m).length = m := (by rw [zQ]; omega); rw [hmt] at hCT; have HT := impl_LeftOf.calls p wd hg rs A cp l A2 c2 (s.take m) L2 W9.drew (yM (HK.out.below HBR.out).c) hlc2 (by rw [hmt]; exact hCT) (by rw [hmt]; exact d4) HTM.out; rw [hmt] at HT; refine HT.mono ?_; rintro e w10 ⟨v, rfl, hS, hb2⟩; obtain ⟨A9, c9, rfl⟩ := Kd.S_slice hS; have hb := below_then (below_drew (Below.refl _ W9)) (Nat.le_refl _) hb2; replace HBR := zA (HBR.out.trans (hb.mono HBR.out.size)); replace H7 := zA (Kd.C_below H7.out hb); have H9 := zA (Kd.S_reads' hS).2.2; have hc9 := (Kd.S_reads' hS).2.1; clear hS hb hb2 HT hCT hmt q0 q1 q2 q3 q4)))
      clear d1 d2
      have hne : L1 ≠ [] := fun e => hz1 (by rw [e]; rfl)
      obtain ⟨hlen, hfin⟩ := HHF.out hne
      have HLEN := zA hlen
      have HFIN := zA hfin
      have b3 : ((L2.length : Int) != (L1.length : Int)) = false := by rw [hlen]; simp
      have hl2 : L2.length ≤ 4 := by omega
      clear hlen hfin hne HHF HTM q0 q1 q2 q3 q4
      go_wp2_with (fail)
      clear b1 b2 b3
      go_loopw [9] (fun v9 w' => ∃ i : Nat, v9 = .int .i64 i ∧ i ≤ L1.length ∧ Aside0 (Below w10.heap.size w10 w')) (fun v9 w' => L1.length - (intOf v9).toNat)
      case atStart => exact ⟨0, rfl, Nat.zero_le _, ⟨Below.refl _ _⟩⟩
      case round =>
       obtain ⟨i, rfl, hi, HW⟩ := hrel
       by_cases hlt : i < L1.length
       ·go_wp2_with (fail)
        go_loopw [10] (fun v10 w' => ∃ k : Nat, v10 = .int .i64 k ∧ k ≤ 64 ∧ Aside0 (Below w10.heap.size w10 w')) (fun v10 w' => 64 - (intOf v10).toNat)
        case atStart => exact ⟨0, rfl, Nat.zero_le _, HW⟩
        case round =>
         clear HW
         obtain ⟨k, rfl, hk, HW⟩ := hrel
         by_cases hk64 : k < 64
         ·have hi2 : i < L2.length := by have := HLEN.out; omega
          obtain ⟨ad1, B1, e1, rfl, x1, _, hC1⟩ := at_L3 (Kd.C_below H7.out HW.out) (i : Int) (by omega) (by omega)
          obtain ⟨ad2, B2, e2, rfl, x2, _, hC2⟩ := at_L3 (Kd.C_below H9.out HW.out) (i : Int) (by omega) (by omega)
          have r1 : rd_L3 L1 (i : Int) = L1.getD i [] := getD_rows L1 i hlt
          have r2 : rd_L3 L2 (i : Int) = L2.getD i [] := getD_rows L2 i hi2
          rw [r1] at x1 hC1
          rw [r2] at x2 hC2
          have m1 : (L1.getD i []).length = 64 := H64.out.get i (by have := H64.out.1; omega)
          have m2 : (L2.getD i []).length = 64 := H642.out.get i (by have := H642.out.1; omega)
          rw [m1] at x1 hC1
          rw [m2] at x2 hC2
          obtain ⟨ak1, rfl, y1⟩ := Kd.at_int hC1 (k : Int) (by omega) (by omega)
          obtain ⟨ak2, rfl, y2⟩ := Kd.at_int hC2 (k : Int) (by omega) (by omega)
          have hf := HFIN.out i k
          have g1 := getD_rd (L1.getD i []) k (by omega)
          have g2 := getD_rd (L2.getD i []) k (by omega)
          rw [g1, g2] at hf
          generalize rd (L1.getD i []) (k : Int) = v1 at y1 hf
          generalize rd (L2.getD i []) (k : Int) = v2 at y2 hf
          simp only [Int.toNat_natCast] at x1 x2 y1 y2
          clear r1 r2 m1 m2 g1 g2 hC1 hC2
          have HHW := HW
          by_cases h2 : 0 ≤ v2
          ·obtain ⟨f1, f2⟩ := hf h2
           have t1 : decide (0 ≤ v2) = true := zT h2
           have t2 : decide (v1 < 0) = false := decide_eq_false (by omega)
           have t3 : decide (v2 < v1) = false := decide_eq_false (by omega)
           clear hf h2 f1 f2
           go_wp2_with (fail)
           go_quiet (fail)
           go_wp2_with (fail)
           go_roundw
           case rel => exact ⟨k + 1, by go_num, by omega, ⟨zB HHW.out _⟩⟩
           case measure => simp [intOf]; omega
          ·have t1 : decide (0 ≤ v2) = false := decide_eq_false h2
           clear hf h2
           go_wp2_with (fail)
           go_quiet (fail)
           go_wp2_with (fail)
           go_roundw
           case rel => exact ⟨k + 1, by go_num, by omega, ⟨zB HHW.out _⟩⟩
           case measure => simp [intOf]; omega
         ·obtain rfl : k = 64 := by omega
          go_wp2_with (fail)
          go_roundw
          case rel => exact ⟨i + 1, by go_num, by omega, HW⟩
          case measure => simp [intOf]; omega
       ·obtain rfl : i = L1.length := by omega
        go_wp2_with (fail)
        go_ret
        exact ⟨rfl, ((HK.out.below HBR.out).below HW.out).b⟩
end Go.Proofs.Ytilimpjcdeeaiaa.G


namespace Go.Proofs.Ytilimpjcdeeaiaa.G
open Go.RowKit Go.Proofs.YtilimpjcdeeaiaaW.PrintWords Go.Proofs.YtilimpjcdeeaiaaW.PrintLast Go.Proofs.YtilimpjcdeeaiaaW.PrintMore
attribute [local go_sem] max2_int min2_int max_two min_two max_three min_three max_four min_four   -- for this text's walks alone
--import Derived.Deep.Slices
--import Derived.ChangeArms
/-- type t reads as kind d, with values that are wf -/
def Opens {α : Type} (P : Program) (t : TypeId) (d : Kd α) (wf : α → Prop) : Prop :=
 P.cellsOf t = d.sz ∧ ∀ {H : Type} {enc : TypeId × Value → H} {w : World} {base fuel : Nat} {cs : List Value} {x : DataW H × List MemPlace}, DataW.trod enc P w base (fun _ => true) true fuel t cs = some x → ∃ a, d.K w a cs ∧ wf a
theorem opens_int {P : Program} {t : TypeId} {k : IntKind} (hc : P.cellsOf t = 1) (ht : P.underlying t = some (.int k)) : Opens P t (Kd.int k) (fun n => (Lit.int k n).wf = true) :=
 ⟨hc, fun h => by
  obtain ⟨n, rfl, _, hw⟩ := DataW.trod_int ht h
  exact ⟨n, rfl, hw⟩⟩
theorem opens_slice {α : Type} {P : Program} {t e : TypeId} {d : Kd α} {wf : α → Prop} (hc : P.cellsOf t = 1) (ht : P.underlying t = some (.slice e)) (h0 : Opens P e d wf) : Opens P t (Kd.slice e d) (fun l => l.length ≤ 9223372036854775807 ∧ ∀ x ∈ l, wf x) :=
 ⟨hc, fun {H enc w base fuel cs x} h => by
  rcases Go.Deep.open_slice ht h with ⟨rfl, _⟩ | ⟨a, len, cap, m, n, D, Pl, rfl, hb, hl, hm, hmm, rfl, hx⟩
  ·exact ⟨[], ⟨none, 0, rfl, Nat.le_refl _, rfl, by simp, fun h => absurd h (by simp)⟩, by simp, by simp⟩
  ·simp only [if_true] at hmm
   subst hmm
   have build : ∀ n, n ≤ len → ∃ l : List α, l.length = n ∧ (∀ j p, l[j]? = some p → ∃ c, c.length = d.sz ∧ d.K w p c ∧ ∀ i u, c[i]? = some u → w.cell? (a.add (j * d.sz + i)) = some u) ∧ ∀ x ∈ l, wf x := by
    intro n
    induction n with
    | zero => exact fun _ => ⟨[], rfl, by simp, by simp⟩
    | succ n ih =>
     intro hn
     obtain ⟨l, hl1, hl2, hl3⟩ := ih (by omega)
     obtain ⟨cs', h1, h2⟩ := hx n (by omega)
     obtain ⟨b, hk, hw⟩ := h0.2 h2
     obtain ⟨_, hcl, hcell⟩ := World.cells?_some h1
     rw [h0.1] at hcl hcell
     refine ⟨l ++ [b], by simp [hl1], fun j p hj => ?_, fun x hx => ?_⟩
     ·rcases Nat.lt_or_ge j l.length with hlt | hge
      ·rw [List.getElem?_append_left hlt] at hj
       exact hl2 j p hj
      ·obtain rfl : j = l.length := by
        have := (List.getElem?_eq_some_iff.1 hj).1
        simp at this; omega
       obtain rfl : b = p := by simpa using hj
       refine ⟨cs', hcl, hk, fun i u hu => ?_⟩
       have hi : i < d.sz := by rw [← hcl]; exact (List.getElem?_eq_some_iff.1 hu).1
       have := hcell i hi
       rw [Go.Deep.add_add] at this
       rw [hl1, this, hu]
     ·rcases List.mem_append.1 hx with hx | hx
      ·exact hl3 x hx
      ·rw [List.mem_singleton.1 hx]; exact hw
   obtain ⟨l, hl1, hl2, hl3⟩ := build len (Nat.le_refl _)
   subst hl1
   have hm' : m ≤ 9223372036854775807 := hm
   exact ⟨l, ⟨some a, m, rfl, hl, rfl, by omega, fun _ => ⟨a, rfl, hl2⟩⟩, by omega, hl3⟩⟩
/-- a slice argument, opened -/
theorem open_slice_arg {α H : Type} {enc : TypeId × Value → H} {P : Program} {W : World} {base : Nat} {t e : TypeId} {d : Kd α} {wf : List α → Prop} (ho : Opens P t (Kd.slice e d) wf) {a : Option Addr} {len cap : Nat} {dd : DataW H} {ps : List MemPlace}
  (h : DataW.Trod enc P W base (fun _ => true) true t (.slice a len cap) dd ps) : ∃ l : List α, len = l.length ∧ l.length ≤ cap ∧ d.C W a l.length l ∧ wf l := by
 obtain ⟨fuel, hf⟩ := h
 obtain ⟨l, ⟨A, c, e1, hl, hC⟩, hw⟩ := ho.2 hf
 injection e1 with e1 _
 injection e1 with e1 e2 e3
 subst e1; subst e2; subst e3
 exact ⟨l, rfl, hl, hC, hw⟩
end Go.Proofs.Ytilimpjcdeeaiaa.G


namespace Go.Proofs.Ytilimpjcdeeaiaa.fnScripts
open Go.ChangeShapes Go.WideShapes Go.ChangeAt Go.RowKit Go.Proofs.Ytilimpjcdeeaiaa.G Go.Proofs.YtilimpjcdeeaiaaW.PrintWords
open Go.ChangeMaps (open_string shut_string)
theorem own : ownKnob Try.prog.godebug = none := by kernel_rfl
theorem laidOut : laidOutB Try.prog = true := by kernel_rfl
set_option maxRecDepth 100000 in
theorem lifted (os : Os) (started : os.Started) (H : Type) (enc : TypeId × Value → H) :
  ReturnsInHanded {} Try.checked os 3 .any (Rows.fnScriptsSpec.pre6 enc Try.prog Try.f3 Rows.fnScriptsRow.domain false) (Rows.fnScriptsSpec.post enc Try.prog Try.f3 false true false false) := by
 refine returnsInHanded_of_change_sized (C := Try.checked) own started (by kernel_rfl) Try.func3
  (ChangeSpec.witness6 (enc := enc) (C := Try.checked) false ⟨#[], #[.slice none 0 0], []⟩ 8 (by kernel_rfl) (by kernel_rfl) (by kernel_rfl) (by kernel_rfl)) ?_
 intro W base args ds gs before hval0 hW hcnd hsz0 _
 have hval : ∀ (j : Nat) t v, Try.f3.params[j]? = some t → args[j]? = some v → Value.okWide Try.prog W .any base t v := hval0
 have hW' := hW
 obtain ⟨p, q, hA0, hV, rfl, hfz, hnd⟩ := hW
 have hA : DataW.TrodAll enc Try.prog W 0 (fun _ => true) true Try.f3.params.toList args.toList ds p := hA0
 rw [Try.params3] at hA hval
 obtain ⟨v0, vs0, d0, ds0, p0, q0, hargs, rfl, rfl, h0, r0⟩ := trodAll_cons hA
 obtain ⟨rfl, rfl, rfl⟩ := trodAll_nil r0
 obtain rfl : args = #[v0] := by cases args; simp_all
 obtain ⟨rfl, rfl⟩ := trodVars_none hV
 obtain ⟨a0, len0, cap0, rfl⟩ := okWide_slice Try.underlying22 (hval 0 22 v0 rfl rfl)
 have k0 := h0
 have lt0 : ∀ x ∈ p0, x.block < W.heap.size := by obtain ⟨m, hm⟩ := k0; exact DataW.trod_lt m _ _ _ hm
 obtain ⟨l0, rfl, hl0, hC0, w0⟩ := open_slice_arg (opens_slice (by kernel_rfl) Try.underlying22 (opens_int (by kernel_rfl) Try.underlying5)) h0
 clear hA0 hval0 hsz0
 refine (laws_FnScripts.law _ _ l0 W hC0 hl0 w0).mono fun e W' ⟨he, bel0⟩ => ?_
 have bel : Below W.heap.size W W' := bel0
 subst he
 exact ⟨_, rfl, _, _, _, [], _, [], hW', trodAll_mk1 (shut_bool Try.underlying4 _), (trodAll_cons_mk (Below.trod laidOut (by kernel_rfl) (zI (by kernel_rfl)) k0 bel lt0) trodAll_mk0), rfl, bel.frame _, fun h => by cases h⟩
theorem over : Rows.fnScriptsRow.holds Try.pinned (OpenSpec.ofChange Rows.fnScriptsSpec) :=
 OpenClaim.holds_of_wide 3 Try.f3 rfl rfl rfl rfl rfl rfl rfl ⟨rfl, rfl, rfl, rfl, rfl⟩ rfl rfl rfl rfl rfl (by kernel_rfl) Try.func3 (by kernel_rfl)
  (zI (by kernel_rfl)) (by unfold Func.isWrapper; first | (rw [if_pos (by decide +kernel)]; kernel_rfl) | (rw [if_neg (by decide +kernel)]; exact ⟨rfl, rfl⟩))
  (fun os started H enc _ => lifted os started H enc)
theorem proved : Rows.FnScriptsSaid := over
#print axioms proved
end Go.Proofs.Ytilimpjcdeeaiaa.fnScripts
namespace Go.Proofs.Ytilimpjcdeeaiaa
/-- The row, under a short name, for the claim. -/
theorem fnScripts_holds : Rows.FnScriptsSaid := fnScripts.proved
end Go.Proofs.Ytilimpjcdeeaiaa

