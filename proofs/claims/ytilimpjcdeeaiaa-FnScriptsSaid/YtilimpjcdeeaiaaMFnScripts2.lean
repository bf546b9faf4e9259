import Derived.WalkSpells
import Derived.Laws.CopyOwn
import Derived.Deep.RegionLaw
import Derived.StillTailTactics
import Derived.Test.YtilimpjcdeeaiaaMFnScripts1
set_option linter.unusedVariables false
set_option linter.unusedSimpArgs false
namespace Go.Proofs.Ytilimpjcdeeaiaa.G
open Go.RowKit Go.Proofs.YtilimpjcdeeaiaaW.PrintWords Go.Proofs.YtilimpjcdeeaiaaW.PrintLast Go.Proofs.YtilimpjcdeeaiaaW.PrintMore
attribute [local go_sem] max2_int min2_int max_two min_two max_three min_three max_four min_four   -- for this text's walks alone
def okS (w : World) (ga go gp : Nat) (k : Nat) : Prop := w.heap.size ≤ k ∧ k ≠ ga ∧ k ≠ go ∧ k ≠ gp
structure ScK (w W : World) (ga go gp : Nat) (all : List Int) (out : List SN) (va vo : Value) : Prop where
 b : Below w.heap.size w W
 a : W.heap[ga]? = some (.cells #[va] 36 (0, 0))
 o : W.heap[go]? = some (.cells #[vo] 27 (0, 0))
 ga0 : w.heap.size ≤ ga
 go0 : w.heap.size ≤ go
 ne : ga ≠ go
 gp1 : gp < W.heap.size
 ra : Kd.R (Kd.int .i64) 3 W w.heap.size (fun _ => True) va all
 ro : Kd.N k38 38 W w.heap.size (okS w ga go gp) vo out
theorem ScK.below {w W W' : World} {ga go gp : Nat} {all : List Int} {out : List SN} {va vo : Value} (h : ScK w W ga go gp all out va vo) (hb : Below W.heap.size W W') : ScK w W' ga go gp all out va vo :=
 ⟨Below.trans h.b (Below.mono hb h.b.size), (hb.block _ (blk_lt h.a)).trans h.a, (hb.block _ (blk_lt h.o)).trans h.o, h.ga0, h.go0, h.ne, Nat.lt_of_lt_of_le h.gp1 hb.size, Kd.R_below h.ra hb, Kd.N_below h.ro hb⟩
theorem ScK.drewN {w W : World} {ga go gp : Nat} {all : List Int} {out : List SN} {va vo : Value} (h : ScK w W ga go gp all out va vo) (m : Nat) : ScK w (W.drewN m) ga go gp all out va vo := h.below (zB (Below.refl _ _) m)
/-- a new block is written -/
theorem ScK.fresh {w W W' : World} {ga go gp g : Nat} {all : List Int} {out : List SN} {va vo : Value} (h : ScK w W ga go gp all out va vo) (hb : Below W.heap.size W W') (hg : W.heap.size ≤ g) (j : Nat) (u : Value) : ScK w (W'.setCell ⟨g, j, none⟩ u) ga go gp all out va vo :=
 h.below (zE hb hg)
/-- something was put behind the scans, and what came was stored -/
theorem ScK.push {w W W' : World} {ga go gp : Nat} {all : List Int} {out out' : List SN} {va vo v' : Value} (h : ScK w W ga go gp all out va vo) (hb : Below w.heap.size w W') (hg : W.grownBy W' vo.ownBlock) (hs : W.heap.size ≤ W'.heap.size) (ho : Kd.N k38 38 W' w.heap.size (okS w ga go gp) v' out') :
  ScK w (W'.setCell ⟨go, 0, none⟩ v') ga go gp all out' va v' := by
 have hna : some ga ≠ vo.ownBlock := fun e => (h.ro.1 ga e.symm).2.1 rfl
 have hno : some go ≠ vo.ownBlock := fun e => (h.ro.1 go e.symm).2.2.1 rfl
 have h1 := blk_grown h.a hg hna
 have h2 := blk_grown h.o hg hno
 refine ⟨zE hb h.go0, (Below.heap_setCell _ _ _ ga h.ne).trans h1, blk_set h2 0 v', h.ga0, h.go0, h.ne, by have := h.gp1; rw [World.size_setCell]; omega, ?_, Kd.N_far ho (fun k hk => hk.2.2.1) _⟩
 refine Kd.R_set (Kd.R_grown2 h.ra rfl hg (fun k hk e => ?_)) h2 (by decide) 0 v'
 obtain ⟨c1, hc1⟩ := Kd.R_typed h.ra k e.symm
 obtain ⟨c2, hc2⟩ := Kd.N_typed h.ro k hk
 rw [hc1] at hc2
 injection hc2 with hc2
 injection hc2 with _ hc2 _
 exact absurd hc2 (by decide)
def oneS (c : Int) (p : SN) : SN := ⟨[c], p.f1, p.f2, p.f3, p.f4⟩
def eachM (ps : List SN) (l : List Int) : List SN := l.flatMap fun c => ps.map (oneS c)
theorem eachM_take (ps : List SN) (l : List Int) (i : Nat) (h : i < l.length) : eachM ps (l.take (i + 1)) = eachM ps (l.take i) ++ ps.map (oneS l[i]) := by
 unfold eachM
 rw [List.take_succ_eq_append_getElem h, List.flatMap_append]; simp
def passV (p : SN) : List Value := [.slice none 0 0, .int .i64 p.f1, .int .i64 p.f2, .int .i64 p.f3, .int .i64 p.f4]
theorem pass_cells {W : World} {gp : Nat} {ps : List SN} (h : W.heap[gp]? = some (.cells (ps.flatMap passV).toArray 38 (0, 0))) (hm : ps.length ≤ 2) (j : Nat) (hj : j < ps.length) :
  W.cell? ⟨gp, j * 5, none⟩ = some (.slice none 0 0) ∧ W.cell? ⟨gp, j * 5 + 1, none⟩ = some (.int .i64 ps[j].f1) ∧ W.cell? ⟨gp, j * 5 + 2, none⟩ = some (.int .i64 ps[j].f2) ∧ W.cell? ⟨gp, j * 5 + 3, none⟩ = some (.int .i64 ps[j].f3) ∧ W.cell? ⟨gp, j * 5 + 4, none⟩ = some (.int .i64 ps[j].f4) := by
 match ps, hm, j, hj with
 | [p], _, 0, _ => exact ⟨zK h 0, zK h 1, zK h 2, zK h 3, zK h 4⟩
 | [p, q], _, 0, _ => exact ⟨zK h 0, zK h 1, zK h 2, zK h 3, zK h 4⟩
 | [p, q], _, 1, _ => exact ⟨zK h 5, zK h 6, zK h 7, zK h 8, zK h 9⟩
theorem eachM_len (ps : List SN) (l : List Int) : (eachM ps l).length = l.length * ps.length := by
 induction l with
 | nil => simp [eachM]
 | cons x l ih => rw [eachM, List.flatMap_cons, zX, List.length_map, ← eachM, ih, List.length_cons, Nat.succ_mul, Nat.add_comm]
end Go.Proofs.Ytilimpjcdeeaiaa.G


namespace Go.Proofs.Ytilimpjcdeeaiaa.G
open Go.RowKit Go.Proofs.YtilimpjcdeeaiaaW.PrintWords Go.Proofs.YtilimpjcdeeaiaaW.PrintLast Go.Proofs.YtilimpjcdeeaiaaW.PrintMore
attribute [local go_sem] max2_int min2_int max_two min_two max_three min_three max_four min_four   -- for this text's walks alone
def EachP (w : World) (ga go gp : Nat) (all : List Int) (out : List SN) (ps : List SN) (va : Value) (e : Ending) (W' : World) : Prop :=
 e = .returned (.tuple #[]) ∧ ∃ vo' : Value, ScK w W' ga go gp all (out ++ eachM ps all) va vo'
def EachR (w : World) (ga go gp : Nat) (all : List Int) (out : List SN) (ps : List SN) (va : Value) (W' : World) : Prop :=
 ∃ vo' : Value, ScK w W' ga go gp all out va vo' ∧ W'.heap[gp]? = some (.cells (ps.flatMap passV).toArray 38 (0, 0))
set_option maxRecDepth 100000 in
set_option maxHeartbeats 4000000 in
theorem each_calls (w W : World) (ga go gp cp : Nat) (all : List Int) (out : List SN) (va vo : Value) (ps : List SN) (hK : ScK w W ga go gp all out va vo) (hp : W.heap[gp]? = some (.cells (ps.flatMap passV).toArray 38 (0, 0))) (hpo : gp ≠ go) (hm : ps.length ≤ 2) (hcp : ps.length ≤ cp) (hall : all.length ≤ 4) (hout : out.length ≤ 1000) :
  Calls Try.prog 54 #[.slice (some ⟨gp, 0, none⟩) ps.length cp, .pointer (some ⟨ga, 0, none⟩), .pointer (some ⟨go, 0, none⟩)] W (EachP w ga go gp all out ps va) := by
 obtain ⟨Aa, ca, rfl⟩ := Kd.R_slice hK.ra
 have q0 := zK hK.a 0
 simp at q0
 have HK := zA (show EachR w ga go gp all (out ++ eachM ps (all.take 0)) ps (.slice Aa all.length ca) W from ⟨vo, by simpa [eachM] using hK, hp⟩)
 clear hK hp
 go_enter Try.func54, Try.ntmps54
 go_wp2
 clear q0
 go_loopw [10] (fun v10 w' => ∃ i : Nat, v10 = .int .i64 i ∧ i ≤ all.length ∧ Aside0 (EachR w ga go gp all (out ++ eachM ps (all.take i)) ps (.slice Aa all.length ca) w')) (fun v10 w' => all.length - (intOf v10).toNat)
 case atStart => exact ⟨0, rfl, Nat.zero_le _, HK⟩
 case round =>
  clear HK
  obtain ⟨i, rfl, hi, HK⟩ := hrel
  by_cases hlt : i < all.length
  ·obtain ⟨vo', hk, hp⟩ := HK.out
   obtain ⟨ad, e1, hx⟩ := Kd.at_int (yK hk.ra).2.2 (i : Int) (by omega) (by omega)
   subst e1
   rw [Int.toNat_natCast, rd_nat all i hlt] at hx
   obtain ⟨c, hc⟩ : ∃ c, c = all[i] := ⟨_, rfl⟩
   rw [← hc] at hx
   have HC := zA hc
   have HJ := zA (show EachR w ga go gp all (out ++ eachM ps (all.take i) ++ (ps.take 0).map (oneS c)) ps (.slice (some ad) all.length ca) wr from ⟨vo', by simpa using hk, hp⟩)
   clear hk hp HK hc
   go_wp2
   clear hx
   go_loopw [16] (fun v16 w' => ∃ j : Nat, v16 = .int .i64 j ∧ j ≤ ps.length ∧ Aside0 (EachR w ga go gp all (out ++ eachM ps (all.take i) ++ (ps.take j).map (oneS c)) ps (.slice (some ad) all.length ca) w')) (fun v16 w' => ps.length - (intOf v16).toNat)
   case atStart => exact ⟨0, rfl, Nat.zero_le _, HJ⟩
   case round =>
    clear HJ
    obtain ⟨j, rfl, hj, HJ⟩ := hrel
    by_cases hlj : j < ps.length
    ·obtain ⟨v2, hk, hp⟩ := HJ.out
     obtain ⟨y0, y1, y2, y3, y4⟩ := pass_cells hp hm j hlj
     obtain ⟨p, hpe⟩ : ∃ p, p = ps[j] := ⟨_, rfl⟩
     rw [← hpe] at y1 y2 y3 y4
     have HP := zA hpe
     have HK := zA hk
     have HQ := zA hp
     clear hk hp HJ hpe
     go_upto_region 6 with (fail)
     clear y0 y1 y2 y3 y4
     have k2 := blk_new wr (Obj.cells #[.slice none 0 0, .int .i64 p.f1, .int .i64 p.f2, .int .i64 p.f3, .int .i64 p.f4] 38)
     have hb1 := zC (Below.refl wr.heap.size wr) (Obj.cells #[.slice none 0 0, .int .i64 p.f1, .int .i64 p.f2, .int .i64 p.f3, .int .i64 p.f4] 38)
     have hsz : (wr.alloc (Obj.cells #[.slice none 0 0, .int .i64 p.f1, .int .i64 p.f2, .int .i64 p.f3, .int .i64 p.f4] 38)).heap.size = wr.heap.size + 1 := yJ _ _
     generalize wr.alloc (Obj.cells #[.slice none 0 0, .int .i64 p.f1, .int .i64 p.f2, .int .i64 p.f3, .int .i64 p.f4] 38) = W1 at k2 hb1 hsz ⊢
     have HB1 := zA hb1
     clear hb1
     generalize hg7 : wr.heap.size = g7 at k2 hsz ⊢
     have q0 := zK k2 0
     simp at q0
     have fz := zJ k2 0
     have K2 := zA k2
     clear k2
     go_upto_region 7 with (fail)
     clear q0 fz
     have HS2 := zA (show Below wr.heap.size wr ((W1.setCell ⟨g7, 0, none⟩ (.slice (some ⟨g7 + 1, 0, none⟩) 1 1)).alloc (Obj.cells #[.int .i64 c] 3)) from zC (zE HB1.out (by rw [hg7]; exact Nat.le_refl _)) _)
     have k3 := zD (blk_set K2.out 0 (.slice (some ⟨g7 + 1, 0, none⟩) 1 1)) (Obj.cells #[.int .i64 c] 3)
     have k4 : ((W1.setCell ⟨g7, 0, none⟩ (.slice (some ⟨g7 + 1, 0, none⟩) 1 1)).alloc (Obj.cells #[.int .i64 c] 3)).heap[g7 + 1]? = some (.cells (nums .i64 [c]).toArray 3 (0, 0)) := by
      have h_ := blk_new (W1.setCell ⟨g7, 0, none⟩ (.slice (some ⟨g7 + 1, 0, none⟩) 1 1)) (Obj.cells #[.int .i64 c] 3)
      rw [World.size_setCell, hsz] at h_
      exact h_
     generalize (W1.setCell ⟨g7, 0, none⟩ (.slice (some ⟨g7 + 1, 0, none⟩) 1 1)).alloc (Obj.cells #[.int .i64 c] 3) = W3 at HS2 k3 k4 ⊢
     obtain ⟨oc, hoc⟩ : ∃ oc, oc = out ++ eachM ps (all.take i) ++ (ps.take j).map (oneS c) := ⟨_, rfl⟩
     have hol : oc.length ≤ 2000 := by
      have h1 : (eachM ps (all.take i)).length ≤ 8 := by
       have h2 : ∀ l : List Int, (eachM ps l).length = l.length * ps.length := fun l => by
        induction l with
        | nil => simp [eachM]
        | cons x l ih => rw [eachM, List.flatMap_cons, zX, List.length_map, ← eachM, ih, List.length_cons, Nat.succ_mul, Nat.add_comm]
       rw [h2, zQ]
       have h3 : min i all.length * ps.length ≤ 4 * 2 := Nat.mul_le_mul (by omega) hm
       omega
      rw [hoc, zX, zX, List.length_map, zQ]
      omega
     have hK3 := HK.out.below HS2.out
     rw [← hoc] at hK3 HK
     have HOC := zA hoc
     clear hoc
     have HROW := zA (R_block1 W3 (g7 + 1) w.heap.size [c] (by have := HK.out.b.size; omega) k4 (by simp))
     have z0 := zK k3 0
     have z1 := zK k3 1
     have z2 := zK k3 2
     have z3 := zK k3 3
     have z4 := zK k3 4
     have zo := zK hK3.o 0
     have fo := zJ hK3.o 0
     simp at z0 z1 z2 z3 z4 zo
     have HK3 := zA hK3
     have HQ3 := zA ((HS2.out.block gp (blk_lt HQ.out)).trans HQ.out)
     obtain ⟨A2, c2, e2⟩ := Kd.N_slice hK3.ro
     subst e2
     have HOKS := zA (show okS w ga go gp (g7 + 1) ∧ some (g7 + 1) ≠ (Value.slice A2 oc.length c2).ownBlock by
      have l1 := blk_lt HK.out.a
      have l2 := blk_lt HK.out.o
      have l3 := HK.out.gp1
      have l4 := HK.out.b.size
      refine ⟨⟨by omega, by omega, by omega, by omega⟩, fun e => ?_⟩
      exact absurd (Kd.N_lt HK.out.ro (g7 + 1) e.symm) (by omega))
     have HFR := zA (show ∀ k_, W3.heap.size ≤ k_ → okS w ga go gp k_ from fun k_ hk_ => by
      have l1 := blk_lt HK3.out.a
      have l2 := blk_lt HK3.out.o
      have l3 := HK3.out.gp1
      have l4 := HK3.out.b.size
      exact ⟨by omega, by omega, by omega, by omega⟩)
     have HNO := zA (show some go ≠ (Value.slice A2 oc.length c2).ownBlock from fun e => (HK3.out.ro.1 go e.symm).2.2.1 rfl)
     have HFK := zA (show Kd.FK k38 W3 (fun k_ => okS w ga go gp k_ ∧ some k_ ≠ (Value.slice A2 oc.length c2).ownBlock) (oneS c p) [.slice (some ⟨g7 + 1, 0, none⟩) 1 1, .int .i64 p.f1, .int .i64 p.f2, .int .i64 p.f3, .int .i64 p.f4] from
      k38_mkF W3 _ (oneS c p) (A0 := some ⟨g7 + 1, 0, none⟩) (c0 := 1) (by simp [oneS]) (Kd.N_F (Kd.R_N (zP (ok' := fun k_ => okS w ga go gp k_ ∧ some k_ ≠ (Value.slice A2 oc.length c2).ownBlock) HROW.out (fun k_ hk_ => by rw [hk_]; exact HOKS.out)))))
     clear hK3 k3 k4 HK HQ HS2 K2
     go_wp2_with (first | ((with_reducible refine gate_builtin (b := .append) (xs := #[.tmp 23, .tmp 25]) rfl ?_); at_builtin; go_loud (refine Kd.N_append k38 (w0 := w) w.heap.size rfl (.tmp 23) (.tmp 25) 27 38 (.agg #[(.slice none 0 0), (.int .i64 0), (.int .i64 0), (.int .i64 0), (.int .i64 0)]) 56 rfl Try.underlying27 info38 rfl (by decide) (by omega) (.slice A2 oc.length c2) oc (oneS c p) [.slice (some ⟨g7 + 1, 0, none⟩) 1 1, .int .i64 p.f1, .int .i64 p.f2, .int .i64 p.f3, .int .i64 p.f4] (okS w ga go gp) (fun k_ => okS w ga go gp k_ ∧ some k_ ≠ (Value.slice A2 oc.length c2).ownBlock) rfl rfl HFK.out (fun _ hk => hk) HFR.out HK3.out.ro HK3.out.b HK3.out.b.size (by omega) ?_); intro v26 w4 ho hb hg hat; have HO4 := zA ho; have HB4 := zA hb; have HG4 := zA hg; have HS5 := zA hg.size; obtain ⟨A4, c4, e4⟩ := Kd.N_slice ho; subst e4; have z9 := zK (blk_grown HK3.out.o hg HNO.out) 0; have f9 := zJ (blk_grown HK3.out.o hg HNO.out) 0; simp at z9; clear ho hb hg hat z0 z1 z2 z3 z4 zo fo))
     have HK5 := zA (HK3.out.push HB4.out HG4.out HS5.out HO4.out)
     have hgq := (Below.heap_setCell w4 ⟨go, 0, none⟩ (.slice A4 (oc ++ [oneS c p]).length c4) gp hpo).trans (blk_grown HQ3.out HG4.out (fun e => (HK3.out.ro.1 gp e.symm).2.2.2 rfl))
     have HE := zA (show EachR w ga go gp all (out ++ eachM ps (all.take i) ++ (ps.take (j + 1)).map (oneS c)) ps (.slice (some ad) all.length ca) (w4.setCell ⟨go, 0, none⟩ (.slice A4 (oc ++ [oneS c p]).length c4)) from ⟨_, by
      have h_ := HK5.out
      rw [HOC.out, HP.out] at h_
      rw [List.take_succ_eq_append_getElem hlj, List.map_append, ← List.append_assoc]
      rw [HOC.out, HP.out]
      exact h_, hgq⟩)
     rw [show (oc ++ [oneS c p]).length = oc.length + 1 by simp] at HE
     clear hgq HK5
     go_roundw
     case rel => exact ⟨j + 1, by go_num, by omega, HE⟩
     case measure => simp [intOf]; omega
    ·obtain rfl : j = ps.length := by omega
     rw [List.take_length] at HJ
     go_wp2
     go_roundw
     case rel => exact ⟨i + 1, by go_num, by omega, ⟨by rw [eachM_take ps all i hlt, ← HC.out, ← List.append_assoc]; exact HJ.out⟩⟩
     case measure => simp [intOf]; omega
  ·obtain rfl : i = all.length := by omega
   rw [List.take_length] at HK
   obtain ⟨vo', hk, _⟩ := HK.out
   have HE := zA hk
   clear HK hk
   go_wp2
   go_end0
   exact ⟨rfl, vo', HE.out⟩
end Go.Proofs.Ytilimpjcdeeaiaa.G


namespace Go.Proofs.Ytilimpjcdeeaiaa.G
open Go.RowKit Go.Proofs.YtilimpjcdeeaiaaW.PrintWords Go.Proofs.YtilimpjcdeeaiaaW.PrintLast Go.Proofs.YtilimpjcdeeaiaaW.PrintMore
attribute [local go_sem] max2_int min2_int max_two min_two max_three min_three max_four min_four   -- for this text's walks alone
--import Derived.WalkSpells
theorem eql_slice_nil {P : Program} (w : World) (t e : TypeId) (a : Option Addr) (n c n' c' : Nat) (h : P.underlying t = some (.slice e)) :
  (binOp .eql t (.slice a n c) (.slice none n' c')).run P w = .ok (.bool a.isNone) w := by
 simp only [binOp]
 simp [Op.equal, Op.maxDepth, Lib.run_equalIn_slice_nil w 9999 t e a n c n' c' h]
end Go.Proofs.Ytilimpjcdeeaiaa.G


namespace Go.Proofs.Ytilimpjcdeeaiaa.G
open Go.RowKit Go.Proofs.YtilimpjcdeeaiaaW.PrintWords Go.Proofs.YtilimpjcdeeaiaaW.PrintLast Go.Proofs.YtilimpjcdeeaiaaW.PrintMore
attribute [local go_sem] max2_int min2_int max_two min_two max_three min_three max_four min_four   -- for this text's walks alone
--import Derived.WalkSpells
set_option maxRecDepth 100000 in
set_option maxHeartbeats 4000000 in
theorem cloneInt_calls (A : Option Addr) (c : Nat) (l : List Int) (w : World) (hr : Kd.C (Kd.int .i64) w A l.length l) (hc : l.length ≤ c) (hl : l.length ≤ 1099511627776) :
  Calls Try.prog 56 #[.slice A l.length c] w fun e w' => ∃ v : Value, e = .returned v ∧ Kd.R (Kd.int .i64) 3 w' w.heap.size (fun _ => True) v l ∧ Below w.heap.size w w' := by
 cases A with
 | none =>
  have h0 : l = [] := by
   cases l with
   | nil => rfl
   | cons x l =>
    obtain ⟨ad, e, _⟩ := Kd.at_int hr 0 (by omega) (by simp)
    cases e
  subst h0
  clear hr hc hl
  have he := eql_slice_nil (P := Try.prog) w 36 3 none 0 c 0 0 Try.underlying36
  go_enter Try.func56, Try.ntmps56
  go_wp2
  go_ret
  exact ⟨_, rfl, Kd.R_nil _ _ _ _ _, Below.refl _ _⟩
 | some ad =>
  have HR := zA hr
  have HC := zA hc
  clear hr hc
  have he := eql_slice_nil (P := Try.prog) w 36 3 (some ad) l.length c 0 0 Try.underlying36
  go_enter Try.func56, Try.ntmps56
  go_wp2_with (first | ((with_reducible refine gate_dst (N := 5) rfl ?_); refine Kd.R_lit (w0 := w) (Kd.int .i64) w.heap.size 3 ?hg (N := 5) ?hd (xs := ([] : List Int)) (inner := []) (ok := fun _ => True) (okp := fun _ => True) ?hr ?hp (fun _ hk => hk) trivial (Below.refl _ _) (Nat.le_refl _) (by simp) ?_; (case hd => rfl); (case hg => rfl); (case hr => first | (go_simp; done) | (go_simp; rfl)); (case hp => exact (Reps.none _ _)); intro v5 W1 ho hb hg_ hnew_; have HO := zA ho; have HB := zA hb; clear ho hb hg_ hnew_) | ((with_reducible refine gate_builtin (b := .append) (xs := #[.tmp 5, .tmp 6]) rfl ?_); at_builtin; refine Kd.R_append_rows (Kd.int .i64) (w0 := w) w.heap.size rfl (.tmp 5) (.tmp 6) 36 3 (.int .i64 0) 8 rfl Try.underlying36 info3 rfl (by decide) (by omega) _ [] l _ _ _ (fun _ => True) (fun _ => False) rfl rfl HO.out (Kd.C_below HR.out HB.out) (fun _ _ h => h) (fun _ h => h.elim) (fun _ _ => trivial) HB.out HB.out.size (by simp; omega) ?_; intro v7 w3 ho hb hg hat; have HO3 := zA ho; have HB3 := zA hb; clear ho hb hg hat))
  go_ret
  exact ⟨_, rfl, HO3.out, HB3.out⟩
def slices_Clone_int_int.f (l0 : List Int) : Option (List Int) := if l0.length ≤ 1099511627776 then some l0 else none
theorem slices_Clone_int_int.calls (A0 : Option Addr) (c0 : Nat) (l0 : List Int) (r : List Int) (w : World) (hr0 : Kd.C (Kd.int .i64) w A0 l0.length l0) (hc0 : l0.length ≤ c0) (h : slices_Clone_int_int.f l0 = some r) :
  Calls Try.prog 56 #[.slice A0 l0.length c0] w fun e w' => ∃ v0_ : Value, e = .returned (v0_) ∧ Kd.R (Kd.int .i64) 3 w' w.heap.size (fun _ => True) v0_ r ∧ Below w.heap.size w w' := by
 unfold slices_Clone_int_int.f at h
 split at h
 ·rename_i hl
  obtain rfl := Option.some.inj h
  exact cloneInt_calls A0 c0 l0 w hr0 hc0 hl
 ·cases h
theorem slices_Clone_int_int.val (l0 : List Int) (h : l0.length ≤ 1099511627776) : slices_Clone_int_int.f l0 = some l0 := by unfold slices_Clone_int_int.f; rw [if_pos h]
end Go.Proofs.Ytilimpjcdeeaiaa.G


namespace Go.Proofs.Ytilimpjcdeeaiaa.G
open Go.RowKit Go.Proofs.YtilimpjcdeeaiaaW.PrintWords Go.Proofs.YtilimpjcdeeaiaaW.PrintLast Go.Proofs.YtilimpjcdeeaiaaW.PrintMore
attribute [local go_sem] max2_int min2_int max_two min_two max_three min_three max_four min_four   -- for this text's walks alone
def TogP (w : World) (ga go gp : Nat) (all : List Int) (out : List SN) (s : SN) (va : Value) (e : Ending) (W' : World) : Prop :=
 e = .returned (.tuple #[]) ∧ ∃ vo' : Value, ScK w W' ga go gp all (out ++ [⟨all, s.f1, s.f2, s.f3, s.f4⟩]) va vo'
set_option maxRecDepth 100000 in
set_option maxHeartbeats 4000000 in
theorem together_calls (w W : World) (ga go gp : Nat) (all : List Int) (out : List SN) (va vo : Value) (s : SN) (hK : ScK w W ga go gp all out va vo) (hall : all.length ≤ 4) (hout : out.length ≤ 1000) :
  Calls Try.prog 55 #[.agg #[.slice none 0 0, .int .i64 s.f1, .int .i64 s.f2, .int .i64 s.f3, .int .i64 s.f4], .pointer (some ⟨ga, 0, none⟩), .pointer (some ⟨go, 0, none⟩)] W (TogP w ga go gp all out s va) := by
 obtain ⟨Aa, ca, rfl⟩ := Kd.R_slice hK.ra
 have HK := zA hK
 have hb1 := zC (Below.refl W.heap.size W) (Obj.cells #[.slice none 0 0, .int .i64 s.f1, .int .i64 s.f2, .int .i64 s.f3, .int .i64 s.f4] 38)
 have k2 := blk_new W (Obj.cells #[.slice none 0 0, .int .i64 s.f1, .int .i64 s.f2, .int .i64 s.f3, .int .i64 s.f4] 38)
 clear hK
 go_enter Try.func55, Try.ntmps55
 go_upto_region 1 with (fail)
 have hsz : (W.alloc (Obj.cells #[.slice none 0 0, .int .i64 s.f1, .int .i64 s.f2, .int .i64 s.f3, .int .i64 s.f4] 38)).heap.size = W.heap.size + 1 := yJ _ _
 generalize W.alloc (Obj.cells #[.slice none 0 0, .int .i64 s.f1, .int .i64 s.f2, .int .i64 s.f3, .int .i64 s.f4] 38) = W1 at hb1 k2 hsz ⊢
 have HB1 := zA hb1
 clear hb1
 generalize hg3 : W.heap.size = g3 at k2 hsz ⊢
 have HSZ := zA hsz
 clear hsz
 have hK1 := HK.out.below HB1.out
 have HK1 := zA hK1
 have K2 := zA k2
 have q0 := zK hK1.a 0
 simp at q0
 clear k2 hK1
 go_upto_region 2 with (first | (go_at_call 56; go_loud ((with_reducible refine (slices_Clone_int_int.calls _ _ all all _ ?s1 ?s2 (slices_Clone_int_int.val all (by omega))).mono ?_); (case s1 => exact (yK HK1.out.ra).2.2); (case s2 => exact (yK HK1.out.ra).2.1)); rintro e w' ⟨v, rfl, hr_, hb_⟩; obtain ⟨Ar, cr, er⟩ := Kd.R_slice hr_; subst er; have HR2 := zA hr_; have HB2 := zA hb_; have K2b := zA ((hb_.block _ (blk_lt K2.out)).trans K2.out); have fz := zJ K2b.out 0; have zc := zK K2b.out 0; simp at zc; clear hr_ hb_ q0))
 clear fz zc
 have hb3 : Below W.heap.size W w' := Below.trans HB1.out (Below.mono HB2.out HB1.out.size)
 have hK3 := HK.out.fresh hb3 (show W.heap.size ≤ g3 by omega) 0 (.slice Ar all.length cr)
 have k3 := blk_set K2b.out 0 (.slice Ar all.length cr)
 have hW1 : W1.heap.size = g3 + 1 := HSZ.out
 have HROW := zA (Kd.R_set (Kd.R_lower (zP (ok' := fun k => W1.heap.size ≤ k) (Kd.R_bound HR2.out) (fun k hk => hk.2.1)) (show w.heap.size ≤ W1.heap.size by have := HK.out.b.size; omega)) K2b.out (by decide) 0 (.slice Ar all.length cr))
 generalize w'.setCell ⟨g3, 0, none⟩ (.slice Ar all.length cr) = W3 at hK3 k3 HROW ⊢
 have z0 := zK k3 0
 have z1 := zK k3 1
 have z2 := zK k3 2
 have z3 := zK k3 3
 have z4 := zK k3 4
 have zo := zK hK3.o 0
 have fo := zJ hK3.o 0
 simp at z0 z1 z2 z3 z4 zo
 have HK3 := zA hK3
 obtain ⟨A2, c2, e2⟩ := Kd.N_slice hK3.ro
 subst e2
 have HOKS := zA (show ∀ k, W1.heap.size ≤ k → okS w ga go gp k ∧ some k ≠ (Value.slice A2 out.length c2).ownBlock from fun k hk => by
  have l1 := blk_lt HK.out.a
  have l2 := blk_lt HK.out.o
  have l3 := HK.out.gp1
  have l4 := HK.out.b.size
  refine ⟨⟨by omega, by omega, by omega, by omega⟩, fun e => ?_⟩
  exact absurd (Kd.N_lt HK.out.ro k e.symm) (by omega))
 have HFR := zA (show ∀ k_, W3.heap.size ≤ k_ → okS w ga go gp k_ from fun k_ hk_ => by
  have l1 := blk_lt HK3.out.a
  have l2 := blk_lt HK3.out.o
  have l3 := HK3.out.gp1
  have l4 := HK3.out.b.size
  exact ⟨by omega, by omega, by omega, by omega⟩)
 have HNO := zA (show some go ≠ (Value.slice A2 out.length c2).ownBlock from fun e => (HK3.out.ro.1 go e.symm).2.2.1 rfl)
 have HFK := zA (show Kd.FK k38 W3 (fun k_ => okS w ga go gp k_ ∧ some k_ ≠ (Value.slice A2 out.length c2).ownBlock) (⟨all, s.f1, s.f2, s.f3, s.f4⟩ : SN) [.slice Ar all.length cr, .int .i64 s.f1, .int .i64 s.f2, .int .i64 s.f3, .int .i64 s.f4] from
  k38_mkF W3 _ (⟨all, s.f1, s.f2, s.f3, s.f4⟩ : SN) (A0 := Ar) (c0 := cr) (yK HROW.out).2.1 (Kd.N_F (Kd.R_N (zP (ok' := fun k_ => okS w ga go gp k_ ∧ some k_ ≠ (Value.slice A2 out.length c2).ownBlock) HROW.out (fun k_ hk_ => HOKS.out k_ hk_)))))
 clear hK3 k3 HK HK1 K2 K2b HB1 HB2 HR2
 go_wp2_with (first | ((with_reducible refine gate_builtin (b := .append) (xs := #[.tmp 7, .tmp 9]) rfl ?_); at_builtin; go_loud (refine Kd.N_append k38 (w0 := w) w.heap.size rfl (.tmp 7) (.tmp 9) 27 38 (.agg #[(.slice none 0 0), (.int .i64 0), (.int .i64 0), (.int .i64 0), (.int .i64 0)]) 56 rfl Try.underlying27 info38 rfl (by decide) (by omega) (.slice A2 out.length c2) out (⟨all, s.f1, s.f2, s.f3, s.f4⟩ : SN) [.slice Ar all.length cr, .int .i64 s.f1, .int .i64 s.f2, .int .i64 s.f3, .int .i64 s.f4] (okS w ga go gp) (fun k_ => okS w ga go gp k_ ∧ some k_ ≠ (Value.slice A2 out.length c2).ownBlock) rfl rfl HFK.out (fun _ hk => hk) HFR.out HK3.out.ro HK3.out.b HK3.out.b.size (by omega) ?_); intro v26 w4 ho hb hg hat; have HO4 := zA ho; have HB4 := zA hb; have HG4 := zA hg; have HS5 := zA hg.size; obtain ⟨A4, c4, e4⟩ := Kd.N_slice ho; subst e4; have z9 := zK (blk_grown HK3.out.o hg HNO.out) 0; have f9 := zJ (blk_grown HK3.out.o hg HNO.out) 0; simp at z9; clear ho hb hg hat z0 z1 z2 z3 z4 zo fo))
 have HK5 := zA (HK3.out.push HB4.out HG4.out HS5.out HO4.out)
 go_end0
 exact ⟨rfl, _, by simpa using HK5.out⟩
end Go.Proofs.Ytilimpjcdeeaiaa.G


namespace Go.Proofs.Ytilimpjcdeeaiaa.G
open Go.RowKit Go.Proofs.YtilimpjcdeeaiaaW.PrintWords Go.Proofs.YtilimpjcdeeaiaaW.PrintLast Go.Proofs.YtilimpjcdeeaiaaW.PrintMore
attribute [local go_sem] max2_int min2_int max_two min_two max_three min_three max_four min_four   -- for this text's walks alone
def allM (n : Nat) : List Int := (List.range n).map fun i : Nat => (i : Int)
theorem allM_succ (n : Nat) : allM (n + 1) = allM n ++ [(n : Int)] := by simp [allM, List.range_succ]
theorem allM_len (n : Nat) : (allM n).length = n := by simp [allM]
def scriptM (n : Nat) (kind : Int) : List SN :=
 if kind = 0 then [⟨allM n, 0, 63, 0, 0⟩]
 else if kind = 1 then eachM [⟨[], 0, 63, 0, 0⟩] (allM n)
 else [(⟨allM n, 0, 0, 0, 1⟩ : SN)] ++ eachM [⟨[], 1, 5, 0, 2⟩, ⟨[], 6, 63, 0, 2⟩] (allM n) ++ eachM [⟨[], 1, 63, 2, 1⟩] (allM n) ++ [(⟨allM n, 0, 0, 1, 0⟩ : SN)] ++ eachM [⟨[], 1, 63, 1, 0⟩] (allM n)
def scriptForM (p w h r : Int) (l : List SC) (kind : Int) : List SN := if frameOkM p w h r l = true ∧ (0 ≤ kind ∧ kind ≤ 2) then scriptM l.length kind else []
def impl_ScriptFor.f (a0_0 a0_1 a0_2 a0_3 : Int) (l0_4 : List S102) (a1 : Int) : Option (List S38) := some (scriptForM a0_0 a0_1 a0_2 a0_3 l0_4 a1)
/-- a literal of passes is laid -/
theorem ScK.pass {w W : World} {ga go gp : Nat} {all : List Int} {out : List SN} {va vo : Value} (h : ScK w W ga go gp all out va vo) (o : Obj) : ScK w (W.alloc o) ga go W.heap.size all out va vo := by
 have h1 := h.below (zC (Below.refl W.heap.size W) o)
 exact ⟨h1.b, h1.a, h1.o, h1.ga0, h1.go0, h1.ne, by rw [yJ]; omega, h1.ra, Kd.N_mono (Kd.N_below (Kd.N_bound h.ro) (zC (Below.refl W.heap.size W) o)) (fun k hk => ⟨hk.1.1, hk.1.2.1, hk.1.2.2.1, by have := hk.2; omega⟩)⟩
theorem ScK.pushA {w W W' : World} {ga go gp : Nat} {all all' : List Int} {out : List SN} {va vo v' : Value} (h : ScK w W ga go gp all out va vo) (hb : Below w.heap.size w W') (hg : W.grownBy W' va.ownBlock) (ha : Kd.R (Kd.int .i64) 3 W' w.heap.size (fun _ => True) v' all') (hout : out = []) :
  ScK w (W'.setCell ⟨ga, 0, none⟩ v') ga go gp all' out v' vo := by
 have hna : some ga ≠ va.ownBlock := Kd.R_ne h.ra h.a (by decide)
 have hno : some go ≠ va.ownBlock := Kd.R_ne h.ra h.o (by decide)
 have h1 := blk_grown h.a hg hna
 have h2 := blk_grown h.o hg hno
 have hvo : ∀ k, vo.ownBlock = some k → some k ≠ va.ownBlock := fun k hk e => by
  obtain ⟨c1, hc1⟩ := Kd.R_typed h.ra k e.symm
  obtain ⟨c2, hc2⟩ := Kd.N_typed h.ro k hk
  rw [hc1] at hc2
  injection hc2 with hc2
  injection hc2 with _ hc2 _
  exact absurd hc2 (by decide)
 subst hout
 obtain ⟨h0, rows, hl, hR, hf⟩ := h.ro
 refine ⟨zE hb h.ga0, blk_set h1 0 v', (Below.heap_setCell _ _ _ go h.ne.symm).trans h2, h.ga0, h.go0, h.ne, by have := h.gp1; have := hg.size; rw [World.size_setCell]; omega, Kd.R_set ha h1 (by decide) 0 v', ?_⟩
 have hr0 : rows = [] := List.eq_nil_of_length_eq_zero hl
 subst hr0
 have hR2 := Kd.R_grown2 hR rfl hg (fun k hk e => hvo k e.symm hk.symm)
 exact ⟨h0, [], rfl, Kd.R_set hR2 h1 (by decide) 0 v', fun j x c hx => by simp at hx⟩
theorem ScK.start (w W : World) (hb : Below w.heap.size w W) (hs : w.heap.size < W.heap.size) : ScK w ((((W.alloc (Obj.cells #[] 3)).alloc (Obj.cells #[] 38)).alloc (Obj.cells #[.slice (some ⟨W.heap.size, 0, none⟩) 0 0] 36)).alloc (Obj.cells #[.slice (some ⟨W.heap.size + 1, 0, none⟩) 0 0] 27)) (W.heap.size + 2) (W.heap.size + 2 + 1) w.heap.size [] [] (.slice (some ⟨W.heap.size, 0, none⟩) 0 0) (.slice (some ⟨W.heap.size + 1, 0, none⟩) 0 0) := by
 have e1 : (W.alloc (Obj.cells #[] 3)).heap.size = W.heap.size + 1 := yJ _ _
 have e2 : ((W.alloc (Obj.cells #[] 3)).alloc (Obj.cells #[] 38)).heap.size = W.heap.size + 2 := by rw [yJ, e1]
 have e3 : (((W.alloc (Obj.cells #[] 3)).alloc (Obj.cells #[] 38)).alloc (Obj.cells #[.slice (some ⟨W.heap.size, 0, none⟩) 0 0] 36)).heap.size = W.heap.size + 3 := by rw [yJ, e2]
 have k0 := blk_new W (Obj.cells #[] 3)
 have k1 := blk_new (W.alloc (Obj.cells #[] 3)) (Obj.cells #[] 38)
 have k2 := blk_new ((W.alloc (Obj.cells #[] 3)).alloc (Obj.cells #[] 38)) (Obj.cells #[.slice (some ⟨W.heap.size, 0, none⟩) 0 0] 36)
 have k3 := blk_new (((W.alloc (Obj.cells #[] 3)).alloc (Obj.cells #[] 38)).alloc (Obj.cells #[.slice (some ⟨W.heap.size, 0, none⟩) 0 0] 36)) (Obj.cells #[.slice (some ⟨W.heap.size + 1, 0, none⟩) 0 0] 27)
 rw [e1] at k1
 rw [e2] at k2
 rw [e3] at k3
 have j0 := zD (zD (zD k0 (Obj.cells #[] 38)) (Obj.cells #[.slice (some ⟨W.heap.size, 0, none⟩) 0 0] 36)) (Obj.cells #[.slice (some ⟨W.heap.size + 1, 0, none⟩) 0 0] 27)
 have j1 := zD (zD k1 (Obj.cells #[.slice (some ⟨W.heap.size, 0, none⟩) 0 0] 36)) (Obj.cells #[.slice (some ⟨W.heap.size + 1, 0, none⟩) 0 0] 27)
 have hbs := hb.size
 refine ⟨zC (zC (zC (zC hb _) _) _) _, zD k2 _, k3, by omega, by omega, by omega, by rw [yJ, e3]; omega, R_block _ W.heap.size w.heap.size [] hbs j0 (by simp), ?_⟩
 exact Kd.R_N ⟨fun k hk => by have hk2 : W.heap.size + 1 = k := Option.some.inj hk; subst hk2; exact ⟨by omega, by omega, by omega, by omega⟩, [], ⟨rfl, .inr ⟨W.heap.size + 1, 0, #[], rfl, by omega, j1, Nat.le_refl _, by decide, rfl, rfl⟩⟩, Reps.none _ _⟩
def ScriptP (w : World) (r : List SN) (e : Ending) (w' : World) : Prop :=
 ∃ v0_ : Value, e = .returned (v0_) ∧ Kd.N k38 38 w' w.heap.size (fun k_ => w.heap.size ≤ k_) v0_ r ∧ Below w.heap.size w w'
set_option maxRecDepth 100000 in
set_option maxHeartbeats 4000000 in
theorem scriptFor_calls (a0_0 a0_1 a0_2 a0_3 : Int) (A0_4 : Option Addr) (c0_4 : Nat) (l0_4 : List S102) (a1 : Int) (r : List S38) (w : World) (hr0_4 : Kd.C k102 w A0_4 l0_4.length l0_4) (hc0_4 : l0_4.length ≤ c0_4) (h : scriptForM a0_0 a0_1 a0_2 a0_3 l0_4 a1 = r) :
  Calls Try.prog 9 #[.agg #[.int .i64 a0_0, .int .i64 a0_1, .int .i64 a0_2, .int .i64 a0_3, .slice A0_4 l0_4.length c0_4], .int .i64 a1] w (ScriptP w r) := by
 have HM := zA h
 have HR0 := zA hr0_4
 have HC0 := zA hc0_4
 clear h hr0_4 hc0_4
 have k1 := blk_new w (Obj.cells #[.int .i64 a0_0, .int .i64 a0_1, .int .i64 a0_2, .int .i64 a0_3, .slice A0_4 l0_4.length c0_4] 26)
 have HB := zA (show Below w.heap.size w (w.alloc (Obj.cells #[.int .i64 a0_0, .int .i64 a0_1, .int .i64 a0_2, .int .i64 a0_3, .slice A0_4 l0_4.length c0_4] 26)) from zC (Below.refl _ _) _)
 go_enter Try.func9, Try.ntmps9
 go_upto_region 1 with (fail)
 generalize w.alloc (Obj.cells #[.int .i64 a0_0, .int .i64 a0_1, .int .i64 a0_2, .int .i64 a0_3, .slice A0_4 l0_4.length c0_4] 26) = W1 at k1 HB ⊢
 have K1 := zA k1
 have q0 := zK k1 0
 have q1 := zK k1 1
 have q2 := zK k1 2
 have q3 := zK k1 3
 have q4 := zK k1 4
 simp at q0 q1 q2 q3 q4
 clear k1
 cases hF : frameOkM a0_0 a0_1 a0_2 a0_3 l0_4
 ·have HE := zA (show [] = r by rw [← HM.out, scriptForM, if_neg (fun hq => by rw [hF] at hq; exact Bool.false_ne_true hq.1)])
  have HF := zA hF
  clear HM hF
  go_wp2_with (first | (go_at_call 52; go_loud ((with_reducible refine (impl_FrameOk.calls a0_0 a0_1 a0_2 a0_3 _ _ l0_4 false _ ?s1 ?s2 ?s3).mono ?_); (case s1 => exact Kd.C_below HR0.out HB.out); (case s2 => exact HC0.out); (case s3 => unfold impl_FrameOk.f; rw [HF.out])); rintro e w' ⟨rfl, hb_⟩; have HB2 := zA (Below.trans HB.out (Below.mono hb_ HB.out.size)); clear hb_ q0 q1 q2 q3 q4))
  go_ret
  rw [← HE.out]
  exact ⟨_, rfl, Kd.N_nil _ _ _ _ _, by repeat (first | exact HB2.out | apply zB | apply below_drew)⟩
 ·have HF := zA hF
  cases hk : (decide (0 ≤ a1) && decide (a1 ≤ 2))
  all_goals
   have HKD := zA hk
   have A2 := zA ((impl_within.val a1 0 2).trans (congrArg some hk))
   clear hk
  ·have HE := zA (show [] = r by
    rw [← HM.out, scriptForM, if_neg]
    intro hq
    have := HKD.out
    rw [zT hq.2.1, zT hq.2.2] at this
    cases this)
   clear HM hF
   go_wp2_with (first | (go_at_call 52; go_loud ((with_reducible refine (impl_FrameOk.calls a0_0 a0_1 a0_2 a0_3 _ _ l0_4 true _ ?s1 ?s2 ?s3).mono ?_); (case s1 => exact Kd.C_below HR0.out HB.out); (case s2 => exact HC0.out); (case s3 => unfold impl_FrameOk.f; rw [HF.out])); rintro e w' ⟨rfl, hb_⟩; have HB2 := zA (Below.trans HB.out (Below.mono hb_ HB.out.size)); clear hb_ q0 q1 q2 q3 q4) | (go_at_call 53; (with_reducible refine (impl_within.calls _ _ _ _ _ A2.out).mono ?_); rintro e w' ⟨rfl, ⟨nd, rfl⟩⟩))
   go_ret
   rw [← HE.out]
   exact ⟨_, rfl, Kd.N_nil _ _ _ _ _, by repeat (first | exact HB2.out | apply zB | apply below_drew)⟩
  ·obtain ⟨n1, n4⟩ := frameOk_len hF
   have hkd := HKD.out
   simp only [Bool.and_eq_true, decide_eq_true_eq] at hkd
   obtain ⟨kd0, kd2⟩ := hkd
   have HME := zA (show scriptM l0_4.length a1 = r by rw [← HM.out, scriptForM, if_pos ⟨hF, kd0, kd2⟩])
   clear HM hF
   go_upto_region 3 with (first | (go_at_call 52; go_loud ((with_reducible refine (impl_FrameOk.calls a0_0 a0_1 a0_2 a0_3 _ _ l0_4 true _ ?s1 ?s2 ?s3).mono ?_); (case s1 => exact Kd.C_below HR0.out HB.out); (case s2 => exact HC0.out); (case s3 => unfold impl_FrameOk.f; rw [HF.out])); rintro e w' ⟨rfl, hb_⟩; have HB2 := zA (Below.trans HB.out (Below.mono hb_ HB.out.size)); have K2 := zA ((hb_.block _ (blk_lt K1.out)).trans K1.out); clear hb_ q0 q1 q2 q3 q4) | (go_at_call 53; (with_reducible refine (impl_within.calls _ _ _ _ _ A2.out).mono ?_); rintro e w' ⟨rfl, ⟨nd, rfl⟩⟩))
   go_upto_region 4 with (fail)
   have HK := zA (ScK.start w (w'.drewN nd) (zB HB2.out nd) (blk_lt K2.out))
   have q4 := zK (zD (zD (zD (zD (zG K2.out nd) (Obj.cells #[] 3)) (Obj.cells #[] 38)) (Obj.cells #[.slice (some ⟨w'.heap.size, 0, none⟩) 0 0] 36)) (Obj.cells #[.slice (some ⟨w'.heap.size + 1, 0, none⟩) 0 0] 27)) 4
   simp only [show (w'.drewN nd).heap.size = w'.heap.size from rfl] at HK
   generalize ((((w'.drewN nd).alloc (Obj.cells #[] 3)).alloc (Obj.cells #[] 38)).alloc (Obj.cells #[.slice (some ⟨w'.heap.size, 0, none⟩) 0 0] 36)).alloc (Obj.cells #[.slice (some ⟨w'.heap.size + 1, 0, none⟩) 0 0] 27) = W4 at HK q4 ⊢
   simp at q4
   clear K2 HB2 K1 HB
   generalize w'.heap.size + 2 = ga at HK ⊢
   generalize hgo : ga + 1 = go at HK ⊢
   generalize w'.heap.size + 1 = n1_ at HK
   generalize w'.heap.size = n0_ at HK
   have HGO := zA hgo
   clear hgo
   obtain ⟨n, hn⟩ : ∃ n, n = l0_4.length := ⟨_, rfl⟩
   rw [← hn] at HME
   go_wp2
   clear q4
   go_loopw [23] (fun v23 w' => ∃ (i : Nat) (va : Value), v23 = .int .i64 i ∧ i ≤ l0_4.length ∧ Aside0 (ScK w w' ga go w.heap.size (allM i) [] va (.slice (some ⟨n1_, 0, none⟩) 0 0))) (fun v23 w' => l0_4.length - (intOf v23).toNat)
   case atStart => exact ⟨0, _, rfl, Nat.zero_le _, ⟨HK.out.drewN 0⟩⟩
   case round =>
    clear HK
    obtain ⟨i, va, rfl, hi, HK⟩ := hrel
    by_cases hlt : i < l0_4.length
    ·obtain ⟨Aa, ca, e1⟩ := Kd.R_slice HK.out.ra
     rw [allM_len] at e1
     subst e1
     have q5 := zK HK.out.a 0
     have f5 := zJ HK.out.a 0
     simp at q5
     obtain ⟨al, hal⟩ : ∃ al, al = allM i := ⟨_, rfl⟩
     have HAL := zA (show allM (i + 1) = al ++ [(i : Int)] by rw [hal]; exact allM_succ i)
     have hln : al.length = i := by rw [hal]; exact allM_len i
     rw [← hal] at HK
     clear hal
     go_wp2_with (first | ((with_reducible refine gate_builtin (b := .append) (xs := #[.tmp 26, .tmp 28]) rfl ?_); at_builtin; go_loud (refine Kd.R_append (Kd.int .i64) (w0 := w) w.heap.size rfl (.tmp 26) (.tmp 28) 36 3 (.int .i64 0) 8 rfl Try.underlying36 info3 rfl (by decide) (by omega) (.slice Aa i ca) al (i : Int) [.int .i64 (i : Int)] (fun _ => True) (fun _ => False) rfl rfl rfl (fun _ hk => hk.elim) (fun _ _ => trivial) HK.out.ra HK.out.b HK.out.b.size (by omega) ?_); intro v29 w4 ho hb hg hat; have HO4 := zA ho; have HB4 := zA hb; have HG4 := zA hg; obtain ⟨A4, c4, e4⟩ := Kd.R_slice ho; subst e4; have z9 := zK (blk_grown HK.out.a hg (Kd.R_ne HK.out.ra HK.out.a (by decide))) 0; have f9 := zJ (blk_grown HK.out.a hg (Kd.R_ne HK.out.ra HK.out.a (by decide))) 0; simp at z9; clear ho hb hg hat q5 f5))
     have HK5 := zA (HK.out.pushA HB4.out HG4.out HO4.out rfl)
     rw [← HAL.out] at HK5
     have hal2 : (al ++ [(i : Int)]).length = i + 1 := by simp [hln]
     have HK6 := zA (show ScK w (w4.setCell ⟨ga, 0, none⟩ (.slice A4 (i + 1) c4)) ga go w.heap.size (allM (i + 1)) [] (.slice A4 (i + 1) c4) (.slice (some ⟨n1_, 0, none⟩) 0 0) by have h_ := HK5.out; rw [allM_len] at h_; exact h_)
     clear HK5 hal2
     go_roundw
     case rel => exact ⟨i + 1, _, by go_num, by omega, HK6⟩
     case measure => simp [intOf]; omega
    ·obtain rfl : i = l0_4.length := by omega
     have hal4 : (allM l0_4.length).length ≤ 4 := by rw [allM_len]; exact n4
     rw [hn] at HME
     obtain ⟨al, hal⟩ : ∃ al, al = allM l0_4.length := ⟨_, rfl⟩
     have HME2 := zA (show (if a1 = 0 then [(⟨al, 0, 63, 0, 0⟩ : SN)] else if a1 = 1 then eachM [⟨[], 0, 63, 0, 0⟩] al else [(⟨al, 0, 0, 0, 1⟩ : SN)] ++ eachM [⟨[], 1, 5, 0, 2⟩, ⟨[], 6, 63, 0, 2⟩] al ++ eachM [⟨[], 1, 63, 2, 1⟩] al ++ [(⟨al, 0, 0, 1, 0⟩ : SN)] ++ eachM [⟨[], 1, 63, 1, 0⟩] al) = r by rw [hal]; exact HME.out)
     rw [← hal] at HK hal4
     clear HME hal
     by_cases e0 : a1 = 0
     ·subst e0
      have HE := zA (show [(⟨al, 0, 63, 0, 0⟩ : SN)] = r by rw [← HME2.out]; rfl)
      clear HME2
      go_wp2_with fail
      refine (together_calls w _ ga go _ al _ _ _ (⟨[], 0, 63, 0, 0⟩ : SN) HK.out hal4 (by simp)).mono ?_
      rintro e_ wKA ⟨rfl, vKA, hk_⟩
      have KA := zA hk_
      clear hk_ HK
      have qf := zK KA.out.o 0
      simp only [List.size_toArray, List.length_cons, List.length_nil, List.getElem?_toArray, List.getElem?_cons_zero] at qf
      go_wp2
      go_ret
      exact ⟨_, rfl, by have h_ := Kd.N_mono KA.out.ro (ok' := fun k_ => w.heap.size ≤ k_) (fun k hk => hk.1); rw [← HE.out]; simpa using h_, KA.out.b⟩
     ·have b0 : (a1 == 0) = false := beq_eq_false_iff_ne.mpr e0
      by_cases e1 : a1 = 1
      ·subst e1
       have HE := zA (show eachM [(⟨[], 0, 63, 0, 0⟩ : SN)] al = r by rw [← HME2.out]; rfl)
       clear HME2
       go_wp2_with fail
       refine (each_calls w (wr.alloc (Obj.cells #[.slice none 0 0, .int .i64 0, .int .i64 63, .int .i64 0, .int .i64 0] 38)) ga go wr.heap.size 1 al _ _ _ [(⟨[], 0, 63, 0, 0⟩ : SN)] (HK.out.pass _) (blk_new wr (Obj.cells #[.slice none 0 0, .int .i64 0, .int .i64 63, .int .i64 0, .int .i64 0] 38)) (by have := blk_lt HK.out.o; omega) (by simp) (by simp) hal4 (by simp)).mono ?_
       rintro e_ wKA ⟨rfl, vKA, hk_⟩
       have KA := zA hk_
       clear hk_ HK
       have qf := zK KA.out.o 0
       simp only [List.size_toArray, List.length_cons, List.length_nil, List.getElem?_toArray, List.getElem?_cons_zero] at qf
       go_wp2
       go_ret
       exact ⟨_, rfl, by have h_ := Kd.N_mono KA.out.ro (ok' := fun k_ => w.heap.size ≤ k_) (fun k hk => hk.1); rw [← HE.out]; simpa using h_, KA.out.b⟩
      ·have b1 : (a1 == 1) = false := beq_eq_false_iff_ne.mpr e1
       have HE := zA (show [(⟨al, 0, 0, 0, 1⟩ : SN)] ++ eachM [⟨[], 1, 5, 0, 2⟩, ⟨[], 6, 63, 0, 2⟩] al ++ eachM [⟨[], 1, 63, 2, 1⟩] al ++ [(⟨al, 0, 0, 1, 0⟩ : SN)] ++ eachM [⟨[], 1, 63, 1, 0⟩] al = r by rw [← HME2.out, if_neg e0, if_neg e1])
       clear HME2 e0 e1
       go_wp2_with fail
       refine (together_calls w _ ga go _ al _ _ _ (⟨[], 0, 0, 0, 1⟩ : SN) HK.out hal4 (by simp)).mono ?_
       rintro e_ wKA ⟨rfl, vKA, hk_⟩
       have KA := zA hk_
       clear hk_ HK
       go_wp2_with fail
       refine (each_calls w (wKA.alloc (Obj.cells #[.slice none 0 0, .int .i64 1, .int .i64 5, .int .i64 0, .int .i64 2, .slice none 0 0, .int .i64 6, .int .i64 63, .int .i64 0, .int .i64 2] 38)) ga go wKA.heap.size 2 al _ _ _ [(⟨[], 1, 5, 0, 2⟩ : SN), (⟨[], 6, 63, 0, 2⟩ : SN)] (KA.out.pass _) (blk_new wKA (Obj.cells #[.slice none 0 0, .int .i64 1, .int .i64 5, .int .i64 0, .int .i64 2, .slice none 0 0, .int .i64 6, .int .i64 63, .int .i64 0, .int .i64 2] 38)) (by have := blk_lt KA.out.o; omega) (by simp) (by simp) hal4 (by simp)).mono ?_
       rintro e_ wKB ⟨rfl, vKB, hk_⟩
       have KB := zA hk_
       clear hk_ KA
       go_wp2_with fail
       refine (each_calls w (wKB.alloc (Obj.cells #[.slice none 0 0, .int .i64 1, .int .i64 63, .int .i64 2, .int .i64 1] 38)) ga go wKB.heap.size 1 al _ _ _ [(⟨[], 1, 63, 2, 1⟩ : SN)] (KB.out.pass _) (blk_new wKB (Obj.cells #[.slice none 0 0, .int .i64 1, .int .i64 63, .int .i64 2, .int .i64 1] 38)) (by have := blk_lt KB.out.o; omega) (by simp) (by simp) hal4 (by simp [eachM_len]; omega)).mono ?_
       rintro e_ wKC ⟨rfl, vKC, hk_⟩
       have KC := zA hk_
       clear hk_ KB
       go_wp2_with fail
       refine (together_calls w _ ga go _ al _ _ _ (⟨[], 0, 0, 1, 0⟩ : SN) KC.out hal4 (by simp [eachM_len]; omega)).mono ?_
       rintro e_ wKD ⟨rfl, vKD, hk_⟩
       have KD := zA hk_
       clear hk_ KC
       go_wp2_with fail
       refine (each_calls w (wKD.alloc (Obj.cells #[.slice none 0 0, .int .i64 1, .int .i64 63, .int .i64 1, .int .i64 0] 38)) ga go wKD.heap.size 1 al _ _ _ [(⟨[], 1, 63, 1, 0⟩ : SN)] (KD.out.pass _) (blk_new wKD (Obj.cells #[.slice none 0 0, .int .i64 1, .int .i64 63, .int .i64 1, .int .i64 0] 38)) (by have := blk_lt KD.out.o; omega) (by simp) (by simp) hal4 (by simp [eachM_len]; omega)).mono ?_
       rintro e_ wKE ⟨rfl, vKE, hk_⟩
       have KE := zA hk_
       clear hk_ KD
       have qf := zK KE.out.o 0
       simp only [List.size_toArray, List.length_cons, List.length_nil, List.getElem?_toArray, List.getElem?_cons_zero] at qf
       go_wp2
       go_ret
       exact ⟨_, rfl, by have h_ := Kd.N_mono KE.out.ro (ok' := fun k_ => w.heap.size ≤ k_) (fun k hk => hk.1); rw [← HE.out]; simpa using h_, KE.out.b⟩
theorem impl_ScriptFor.calls (a0_0 a0_1 a0_2 a0_3 : Int) (A0_4 : Option Addr) (c0_4 : Nat) (l0_4 : List S102) (a1 : Int) (r : List S38) (w : World) (hr0_4 : Kd.C k102 w A0_4 l0_4.length l0_4) (hc0_4 : l0_4.length ≤ c0_4) (h : impl_ScriptFor.f a0_0 a0_1 a0_2 a0_3 l0_4 a1 = some r) :
  Calls Try.prog 9 #[.agg #[.int .i64 a0_0, .int .i64 a0_1, .int .i64 a0_2, .int .i64 a0_3, .slice A0_4 l0_4.length c0_4], .int .i64 a1] w fun e w' => ∃ v0_ : Value, e = .returned (v0_) ∧ Kd.N k38 38 w' w.heap.size (fun k_ => (w.heap.size ≤ k_)) v0_ r ∧ Below w.heap.size w w' :=
 scriptFor_calls a0_0 a0_1 a0_2 a0_3 A0_4 c0_4 l0_4 a1 r w hr0_4 hc0_4 (Option.some.inj h)
end Go.Proofs.Ytilimpjcdeeaiaa.G


namespace Go.Proofs.Ytilimpjcdeeaiaa.G
open Go.RowKit Go.Proofs.YtilimpjcdeeaiaaW.PrintWords Go.Proofs.YtilimpjcdeeaiaaW.PrintLast Go.Proofs.YtilimpjcdeeaiaaW.PrintMore
attribute [local go_sem] max2_int min2_int max_two min_two max_three min_three max_four min_four   -- for this text's walks alone
mutual
def spec_ScriptFor.j0 : Nat → Int → List (S38) → Bool → Int → Int → Int → Int → List (S102) → Option ((List (S38)))
 | 0, _, _, _, _, _, _, _, _ => none
 | k + 1, x1, x5, x20, x132000, x132001, x132002, x132003, x132004 => if x20 = true then (some x5) else (spec_ScriptFor.l0 k x1 x5 (([] : List Int)) 0 x132000 x132001 x132002 x132003 x132004)
def spec_ScriptFor.l0 : Nat → Int → List (S38) → List Int → Int → Int → Int → Int → Int → List (S102) → Option ((List (S38)))
 | 0, _, _, _, _, _, _, _, _, _ => none
 | k + 1, x1, x5, x6, x7, x132000, x132001, x132002, x132003, x132004 => if x7 < (x132004.length : Int) then (if x6.length < 17592186044416 then (spec_ScriptFor.l0 k x1 x5 (x6 ++ [x7]) (wrap64 (x7 + 1)) x132000 x132001 x132002 x132003 x132004) else (none)) else (if x1 = 0 then (if x5.length < 2513169434916 then (some (x5 ++ [(⟨x6, 0, 63, 0, 0⟩ : S38)])) else (none)) else (if x1 = 1 then (spec_ScriptFor.l1 k x5 x6 0) else ((some (([] : List Int) : List Int)).bind fun y152 => (if y152.length + x6.length < 17592186044416 then (if x5.length < 2513169434916 then (spec_ScriptFor.l2 k (x5 ++ [(⟨(y152 ++ x6), 0, 0, 0, 1⟩ : S38)]) x6 0) else (none)) else (none)))))
def spec_ScriptFor.l1 : Nat → List (S38) → List Int → Int → Option ((List (S38)))
 | 0, _, _, _ => none
 | k + 1, x5, x6, x8 => if x8 < (x6.length : Int) then (if x5.length < 2513169434916 then (spec_ScriptFor.l1 k (x5 ++ [(⟨(([x8] : List Int)), 0, 63, 0, 0⟩ : S38)]) x6 (wrap64 (x8 + 1))) else (none)) else (some x5)
def spec_ScriptFor.l2 : Nat → List (S38) → List Int → Int → Option ((List (S38)))
 | 0, _, _, _ => none
 | k + 1, x5, x6, x9 => if x9 < (x6.length : Int) then ((some (([(⟨(([x9] : List Int)), 1, 5, 0, 2⟩ : S38), (⟨(([x9] : List Int)), 6, 63, 0, 2⟩ : S38)] : List (S38)) : List (S38))).bind fun y167 => (if x5.length + y167.length < 2513169434916 then (spec_ScriptFor.l2 k (x5 ++ y167) x6 (wrap64 (x9 + 1))) else (none))) else (spec_ScriptFor.l3 k x5 x6 0)
def spec_ScriptFor.l3 : Nat → List (S38) → List Int → Int → Option ((List (S38)))
 | 0, _, _, _ => none
 | k + 1, x5, x6, x10 => if x10 < (x6.length : Int) then (if x5.length < 2513169434916 then (spec_ScriptFor.l3 k (x5 ++ [(⟨(([x10] : List Int)), 1, 63, 2, 1⟩ : S38)]) x6 (wrap64 (x10 + 1))) else (none)) else ((some (([] : List Int) : List Int)).bind fun y179 => (if y179.length + x6.length < 17592186044416 then (if x5.length < 2513169434916 then (spec_ScriptFor.l4 k (x5 ++ [(⟨(y179 ++ x6), 0, 0, 1, 0⟩ : S38)]) x6 0) else (none)) else (none)))
def spec_ScriptFor.l4 : Nat → List (S38) → List Int → Int → Option ((List (S38)))
 | 0, _, _, _ => none
 | k + 1, x5, x6, x11 => if x11 < (x6.length : Int) then (if x5.length < 2513169434916 then (spec_ScriptFor.l4 k (x5 ++ [(⟨(([x11] : List Int)), 1, 63, 1, 0⟩ : S38)]) x6 (wrap64 (x11 + 1))) else (none)) else (some x5)
end
def spec_ScriptFor.f (k : Nat) (a0_0 : Int) (a0_1 : Int) (a0_2 : Int) (a0_3 : Int) (l0_4 : List (S102)) (a1 : Int) : Option ((List (S38))) := (some (([] : List (S38)) : List (S38))).bind fun y132 => ((spec_FrameOk.f k a0_0 a0_1 a0_2 a0_3 l0_4).bind fun t135 => (if t135 = true then ((spec_l01Between.f a1 0 2).bind fun t136 => (spec_ScriptFor.j0 k a1 y132 (!t136) a0_0 a0_1 a0_2 a0_3 l0_4)) else (spec_ScriptFor.j0 k a1 y132 true a0_0 a0_1 a0_2 a0_3 l0_4)))
set_option maxHeartbeats 8000000 in
set_option maxRecDepth 100000 in
theorem spec_ScriptFor.calls (k : Nat) (a0_0 : Int) (a0_1 : Int) (a0_2 : Int) (a0_3 : Int) (A0_4 : Option Addr) (c0_4 : Nat) (l0_4 : List (S102)) (a1 : Int) (r : List (S38)) (w : World) (hr0_4 : Kd.C k102 w A0_4 l0_4.length l0_4) (hc0_4 : l0_4.length ≤ c0_4) (h : spec_ScriptFor.f k a0_0 a0_1 a0_2 a0_3 l0_4 a1 = some r) :
  Calls Try.prog 11 #[.agg #[.int .i64 a0_0, .int .i64 a0_1, .int .i64 a0_2, .int .i64 a0_3, .slice A0_4 l0_4.length c0_4], .int .i64 a1] w fun e w' => ∃ v0_ : Value, e = .returned (v0_) ∧ Kd.N k38 38 w' w.heap.size (fun k_ => (w.heap.size ≤ k_)) v0_ r ∧ Below w.heap.size w w' := by
 have hu26 := Try.underlying26
 have hu38 := Try.underlying38
 have HR0_4 := zA hr0_4
 have HC0_4 := zA hc0_4
 clear hr0_4 hc0_4
 have HB := zA (Below.refl w.heap.size w)
 have H : ((some (([] : List (S38)) : List (S38))).bind fun y132 => ((spec_FrameOk.f k a0_0 a0_1 a0_2 a0_3 l0_4).bind fun t135 => (if t135 = true then ((spec_l01Between.f a1 0 2).bind fun t136 => (spec_ScriptFor.j0 k a1 y132 (!t136) a0_0 a0_1 a0_2 a0_3 l0_4)) else (spec_ScriptFor.j0 k a1 y132 true a0_0 a0_1 a0_2 a0_3 l0_4)))) = some r := h
 clear h
 obtain ⟨y132, hy132⟩ : ∃ y_ : List (S38), y_ = (([] : List (S38))) := ⟨_, rfl⟩
 replace H : ((spec_FrameOk.f k a0_0 a0_1 a0_2 a0_3 l0_4).bind fun t135 => (if t135 = true then ((spec_l01Between.f a1 0 2).bind fun t136 => (spec_ScriptFor.j0 k a1 y132 (!t136) a0_0 a0_1 a0_2 a0_3 l0_4)) else (spec_ScriptFor.j0 k a1 y132 true a0_0 a0_1 a0_2 a0_3 l0_4))) = some r := by first | (rw [hy132]; with_reducible exact H) | (have H2_ := (zS _ _).symm.trans H; rw [hy132]; with_reducible exact H2_) | (have H2_ := (zS _ _).symm.trans H; with_reducible exact H2_) | with_reducible exact H | (rw [hy132]; exact H) | exact H
 have Ny132 := zA hy132
 clear hy132
 have HC3 := zA H
 clear H
 go_enter Try.func11, Try.ntmps11
 go_upto_region 2 with (first | ((with_reducible refine gate_dst (N := 2) rfl ?_); refine box_event ?hg (N := 2) ?hd (cs := #[.int .i64 a0_0, .int .i64 a0_1, .int .i64 a0_2, .int .i64 a0_3, .slice A0_4 l0_4.length c0_4]) (t := 26) ?hr ?_; (case hd => rfl); (case hg => rfl); (case hr => first | (go_simp; done) | (go_simp; rfl)); intro gb131 hg w4 hbox hb; have n0_ := zA (below_step (by repeat (first | (with_reducible first | exact HB.out | apply zC | apply zB | apply zF) | exact HB.out)) hb); have n1_ := zA (hbox); have n2_ := zA ((by rw [hg]; exact (zL (by repeat (first | (with_reducible first | exact HB.out | apply zC | apply zB | apply zF) | exact HB.out))) : w.heap.size ≤ gb131)); have n3_ := zA ((by rw [hg]; exact (zL (by repeat (first | (with_reducible first | exact HB.out | apply zC | apply zB | apply zF) | exact HB.out))) : w.heap.size ≤ gb131)); clear HB; have HB := n0_; have BK131 := n1_; have GW131 := n2_; have GE131 := n3_; clear n0_ n1_ n2_ n3_; clear hb hbox hg) | ((with_reducible refine gate_dst (N := 12) rfl ?_); refine Kd.N_lit k38 _ 38 ?hg (N' := 12) ?hd (xs := ([] : List (S38))) (inner := []) (ok := (fun k_ => (w.heap.size ≤ k_) ∧ k_ ≠ gb131)) (okp := (fun k_ => (w.heap.size ≤ k_) ∧ k_ ≠ gb131)) ?hr ?hp (fun _ hk => hk) ((show ∀ k_, w4.heap.size ≤ k_ → (fun k_ => (w.heap.size ≤ k_) ∧ k_ ≠ gb131) k_ from fun k_ hk => ⟨(Nat.le_trans (zL (by repeat (first | (with_reducible first | exact HB.out | apply zC | apply zB | apply zF | refine zE ?_ GE131.out) | exact HB.out))) hk), Kd.freshB (g := gb131) (o := .cells #[.int .i64 a0_0, .int .i64 a0_1, .int .i64 a0_2, .int .i64 a0_3, .slice A0_4 l0_4.length c0_4] 26 (0, 0)) (by (with_reducible repeat (first | refine zG ?_ _ | refine zH ?_ | refine zD ?_ _)); exact BK131.out) k_ hk⟩) _ (Nat.le_refl _)) (Below.refl _ _) (Nat.le_refl _) (by simp) ?_; (case hd => rfl); (case hg => rfl); (case hr => first | (go_simp; done) | (go_simp; rfl)); (case hp => exact (Reps.none _ _)); intro v133 w5 ho6 hb hg_ hnew_; clear hg_ hnew_; (first | rw [← Ny132.out] at ho6 | (simp only [Int.reduceToNat] at ho6; rw [← Ny132.out] at ho6)); have n0_ := zA (Kd.N_lower ho6 (zL (by repeat (first | (with_reducible first | exact HB.out | apply zC | apply zB | apply zF | refine zE ?_ GE131.out) | exact HB.out)))); have n1_ := zA (blk_below (g := gb131) (o := .cells #[.int .i64 a0_0, .int .i64 a0_1, .int .i64 a0_2, .int .i64 a0_3, .slice A0_4 l0_4.length c0_4] 26 (0, 0)) (by (with_reducible repeat (first | refine zG ?_ _ | refine zH ?_ | refine zD ?_ _)); exact BK131.out) hb); have n2_ := zA (below_step (by repeat (first | (with_reducible first | exact HB.out | apply zC | apply zB | apply zF | refine zE ?_ GE131.out) | exact HB.out)) hb); clear BK131; clear HB; have HO134 := n0_; have BK131 := n1_; have HB := n2_; clear n0_ n1_ n2_; clear hb ho6))
 (try simp only [Act.put, List.setIfInBounds_toArray, List.set_cons_zero, List.set_cons_succ])
 go_cut [20] (fun v20 wc => ∃ (kq : Nat) (x20_2 : Bool), v20 = .bool x20_2 ∧ Aside0 (spec_ScriptFor.j0 kq a1 y132 x20_2 a0_0 a0_1 a0_2 a0_3 l0_4 = some r) ∧ Aside0 (kq ≤ k) ∧ Aside0 (Kd.N k38 38 wc w.heap.size (fun k_ => (w.heap.size ≤ k_) ∧ k_ ≠ gb131) v133 y132) ∧ Aside0 (wc.heap[gb131]? = some (.cells #[.int .i64 a0_0, .int .i64 a0_1, .int .i64 a0_2, .int .i64 a0_3, (.slice A0_4 l0_4.length c0_4)] 26 (0, 0))) ∧ Aside0 (Below w.heap.size w wc))
 case first =>
  have H := HC3.out
  clear HC3
  replace H := Option.bind_eq_some_iff.mp H
  obtain ⟨t135, A70, H⟩ := H
  replace H : (if t135 = true then ((spec_l01Between.f a1 0 2).bind fun t136 => (spec_ScriptFor.j0 k a1 y132 (!t136) a0_0 a0_1 a0_2 a0_3 l0_4)) else (spec_ScriptFor.j0 k a1 y132 true a0_0 a0_1 a0_2 a0_3 l0_4)) = some r := H
  have A7 := zA A70
  clear A70
  by_cases c8 : t135 = true
  ·subst c8
   have H1 : ((spec_l01Between.f a1 0 2).bind fun t136 => (spec_ScriptFor.j0 k a1 y132 (!t136) a0_0 a0_1 a0_2 a0_3 l0_4)) = some r := by rw [if_pos rfl] at H; exact H
   clear H
   have H := H1
   clear H1
   replace H := Option.bind_eq_some_iff.mp H
   obtain ⟨t136, A90, H⟩ := H
   replace H : (spec_ScriptFor.j0 k a1 y132 (!t136) a0_0 a0_1 a0_2 a0_3 l0_4) = some r := H
   have A9 := zA A90
   clear A90
   have H' := zA H
   clear H
   have hcz10_0 : w5.cell? ⟨gb131, 0, none⟩ = some (.int .i64 a0_0) := (zK BK131.out 0).trans rfl
   have hcz10_1 : w5.cell? ⟨gb131, 1, none⟩ = some (.int .i64 a0_1) := (zK BK131.out 1).trans rfl
   have hcz10_2 : w5.cell? ⟨gb131, 2, none⟩ = some (.int .i64 a0_2) := (zK BK131.out 2).trans rfl
   have hcz10_3 : w5.cell? ⟨gb131, 3, none⟩ = some (.int .i64 a0_3) := (zK BK131.out 3).trans rfl
   have hcz10_4 : w5.cell? ⟨gb131, 4, none⟩ = some (.slice A0_4 l0_4.length c0_4) := (zK BK131.out 4).trans rfl
   have hfz10_0 := zJ BK131.out 0
   have hfz10_1 := zJ BK131.out 1
   have hfz10_2 := zJ BK131.out 2
   have hfz10_3 := zJ BK131.out 3
   have hfz10_4 := zJ BK131.out 4
   go_wp2_with (first | ((with_reducible refine gate_callee (f := 12) rfl ?_); refine goesL_ (some 14) rfl rfl Try.func12 (by kernel_rfl) rfl #[.agg #[.int .i64 a0_0, .int .i64 a0_1, .int .i64 a0_2, .int .i64 a0_3, .slice A0_4 l0_4.length c0_4]] rfl (by (try simp only [zU, zV, zW]); first | done | rfl | (simp only [zR, zQ]; rfl)) ?_; (with_reducible refine (spec_FrameOk.calls k a0_0 a0_1 a0_2 a0_3 _ _ l0_4 true _ ?side1 ?side2 A7.out).mono ?_); (case side1 => repeat (first | exact (Kd.C_below HR0_4.out HB.out) | (with_reducible refine yN ?_ _) | (with_reducible refine yL ?_ _) | (with_reducible refine yM ?_))); (case side2 => exact HC0_4.out); rintro e w11 ⟨rfl, hb⟩; refine ⟨_, rfl, ?_⟩; have n0_ := zA (Kd.N_below (by (with_reducible repeat (first | apply Kd.N_alloc | apply Kd.N_drewN | apply Kd.N_drew)); exact HO134.out) hb); have n1_ := zA (blk_below (g := gb131) (o := .cells #[.int .i64 a0_0, .int .i64 a0_1, .int .i64 a0_2, .int .i64 a0_3, .slice A0_4 l0_4.length c0_4] 26 (0, 0)) (by (with_reducible repeat (first | refine zG ?_ _ | refine zH ?_ | refine zD ?_ _)); exact BK131.out) hb); have n2_ := zA (below_step (by repeat (first | (with_reducible first | exact HB.out | apply zC | apply zB | apply zF | refine zE ?_ GE131.out) | exact HB.out)) hb); clear HO134; clear BK131; clear HB; have HO134 := n0_; have BK131 := n1_; have HB := n2_; clear n0_ n1_ n2_; (try clear hb); (try clear hb2); (try clear hk); (try clear hi)) | (go_at_call 58; (with_reducible refine (spec_l01Between.calls a1 0 2 t136 _ A9.out).mono ?_); rintro e w' ⟨rfl, ⟨nd, rfl⟩⟩))
   go_meet
   case rel => exact ⟨_, (!t136), (by first | rfl | (simp; done) | (simp [*]; done)), H', ⟨by first | omega | exact Nat.le_refl _⟩, ⟨by (with_reducible repeat (first | apply Kd.N_alloc | apply Kd.N_drewN | apply Kd.N_drew)); exact HO134.out⟩, ⟨by (with_reducible repeat (first | refine zG ?_ _ | refine zH ?_ | refine zD ?_ _)); exact BK131.out⟩, ⟨by repeat (first | (with_reducible first | exact HB.out | apply zC | apply zB | apply zF | refine zE ?_ GE131.out) | exact HB.out)⟩⟩
  ·replace c8 := Bool.eq_false_iff.mpr c8
   subst c8
   have H1 : (spec_ScriptFor.j0 k a1 y132 true a0_0 a0_1 a0_2 a0_3 l0_4) = some r := by rw [if_neg (show ¬ (false = true) by decide)] at H; exact H
   clear H
   have H := H1
   clear H1
   have H' := zA H
   clear H
   have hcz12_0 : w5.cell? ⟨gb131, 0, none⟩ = some (.int .i64 a0_0) := (zK BK131.out 0).trans rfl
   have hcz12_1 : w5.cell? ⟨gb131, 1, none⟩ = some (.int .i64 a0_1) := (zK BK131.out 1).trans rfl
   have hcz12_2 : w5.cell? ⟨gb131, 2, none⟩ = some (.int .i64 a0_2) := (zK BK131.out 2).trans rfl
   have hcz12_3 : w5.cell? ⟨gb131, 3, none⟩ = some (.int .i64 a0_3) := (zK BK131.out 3).trans rfl
   have hcz12_4 : w5.cell? ⟨gb131, 4, none⟩ = some (.slice A0_4 l0_4.length c0_4) := (zK BK131.out 4).trans rfl
   have hfz12_0 := zJ BK131.out 0
   have hfz12_1 := zJ BK131.out 1
   have hfz12_2 := zJ BK131.out 2
   have hfz12_3 := zJ BK131.out 3
   have hfz12_4 := zJ BK131.out 4
   go_wp2_with (first | ((with_reducible refine gate_callee (f := 12) rfl ?_); refine goesL_ (some 14) rfl rfl Try.func12 (by kernel_rfl) rfl #[.agg #[.int .i64 a0_0, .int .i64 a0_1, .int .i64 a0_2, .int .i64 a0_3, .slice A0_4 l0_4.length c0_4]] rfl (by (try simp only [zU, zV, zW]); first | done | rfl | (simp only [zR, zQ]; rfl)) ?_; (with_reducible refine (spec_FrameOk.calls k a0_0 a0_1 a0_2 a0_3 _ _ l0_4 false _ ?side1 ?side2 A7.out).mono ?_); (case side1 => repeat (first | exact (Kd.C_below HR0_4.out HB.out) | (with_reducible refine yN ?_ _) | (with_reducible refine yL ?_ _) | (with_reducible refine yM ?_))); (case side2 => exact HC0_4.out); rintro e w13 ⟨rfl, hb⟩; refine ⟨_, rfl, ?_⟩; have n0_ := zA (Kd.N_below (by (with_reducible repeat (first | apply Kd.N_alloc | apply Kd.N_drewN | apply Kd.N_drew)); exact HO134.out) hb); have n1_ := zA (blk_below (g := gb131) (o := .cells #[.int .i64 a0_0, .int .i64 a0_1, .int .i64 a0_2, .int .i64 a0_3, .slice A0_4 l0_4.length c0_4] 26 (0, 0)) (by (with_reducible repeat (first | refine zG ?_ _ | refine zH ?_ | refine zD ?_ _)); exact BK131.out) hb); have n2_ := zA (below_step (by repeat (first | (with_reducible first | exact HB.out | apply zC | apply zB | apply zF | refine zE ?_ GE131.out) | exact HB.out)) hb); clear HO134; clear BK131; clear HB; have HO134 := n0_; have BK131 := n1_; have HB := n2_; clear n0_ n1_ n2_; (try clear hb); (try clear hb2); (try clear hk); (try clear hi)))
   go_meet
   case rel => exact ⟨_, (true), (by first | rfl | (simp; done) | (simp [*]; done)), H', ⟨by first | omega | exact Nat.le_refl _⟩, ⟨by (with_reducible repeat (first | apply Kd.N_alloc | apply Kd.N_drewN | apply Kd.N_drew)); exact HO134.out⟩, ⟨by (with_reducible repeat (first | refine zG ?_ _ | refine zH ?_ | refine zD ?_ _)); exact BK131.out⟩, ⟨by repeat (first | (with_reducible first | exact HB.out | apply zC | apply zB | apply zF | refine zE ?_ GE131.out) | exact HB.out)⟩⟩
 case rest =>
  clear HC3
  try clear c1
  try clear p2
  try clear c8
  try clear c11
  try clear c12
  try clear hcz10_0
  try clear hcz10_1
  try clear hcz10_2
  try clear hcz10_3
  try clear hcz10_4
  try clear hcz12_0
  try clear hcz12_1
  try clear hcz12_2
  try clear hcz12_3
  try clear hcz12_4
  try clear hfz10_0
  try clear hfz10_1
  try clear hfz10_2
  try clear hfz10_3
  try clear hfz10_4
  try clear hfz12_0
  try clear hfz12_1
  try clear hfz12_2
  try clear hfz12_3
  try clear hfz12_4
  obtain ⟨kq, x20_2, rfl, HA, HJ2, HO_5, BK131, HB⟩ := hcut
  cases kq with
  | zero => exact absurd HA.out (by simp [spec_ScriptFor.j0])
  | succ kj2 =>
   have H := HA.out
   clear HA
   simp only [spec_ScriptFor.j0] at H
   by_cases c14 : x20_2 = true
   ·subst c14
    have H1 : (some y132) = some r := by rw [if_pos rfl] at H; exact H
    clear H
    have H := H1
    clear H1
    obtain rfl := Option.some.inj H
    go_wp2
    go_ret
    exact ⟨_, by first | rfl | (simp [errW_none, errW_some] <;> rfl) | (simp [*, errW_none, errW_some] <;> rfl), by (with_reducible repeat (first | apply Kd.N_alloc | apply Kd.N_drewN | apply Kd.N_drew)); exact Kd.N_mono HO_5.out (fun _ hk => hk.1), by repeat (first | (with_reducible first | exact HB.out | apply zC | apply zB | apply zF | refine zE ?_ GE131.out) | exact HB.out)⟩
   ·replace c14 := Bool.eq_false_iff.mpr c14
    subst c14
    have H1 : (spec_ScriptFor.l0 kj2 a1 y132 (([] : List Int)) 0 a0_0 a0_1 a0_2 a0_3 l0_4) = some r := by rw [if_neg (show ¬ (false = true) by decide)] at H; exact H
    clear H
    have H := H1
    clear H1
    obtain ⟨y137, hy137⟩ : ∃ y_ : List Int, y_ = (([] : List Int)) := ⟨_, rfl⟩
    replace H : (spec_ScriptFor.l0 kj2 a1 y132 y137 0 a0_0 a0_1 a0_2 a0_3 l0_4) = some r := by first | (rw [hy137]; with_reducible exact H) | (have H2_ := (zS _ _).symm.trans H; rw [hy137]; with_reducible exact H2_) | (have H2_ := (zS _ _).symm.trans H; with_reducible exact H2_) | with_reducible exact H | (rw [hy137]; exact H) | exact H
    have Ny137 := zA hy137
    clear hy137
    have H' := zA H
    clear H
    go_wp2_with (first | ((with_reducible refine gate_dst (N := 22) rfl ?_); refine Kd.R_lit (Kd.int .i64) _ 3 ?hg (N := 22) ?hd (xs := ([] : List Int)) (inner := []) (ok := fun _ => True) (okp := fun _ => True) ?hr ?hp (fun _ hk => hk) trivial (Below.refl _ _) (Nat.le_refl _) (by simp) ?_; (case hd => rfl); (case hg => rfl); (case hr => first | (go_simp; done) | (go_simp; rfl)); (case hp => exact (Reps.none _ _)); intro v138 w15 ho16 hb hg_ hnew_; clear hg_ hnew_; (first | rw [← Ny137.out] at ho16 | (simp only [Int.reduceToNat] at ho16; rw [← Ny137.out] at ho16)); have n0_ := zA (Kd.N_elder' (by (with_reducible repeat (first | apply Kd.N_alloc | apply Kd.N_drewN | apply Kd.N_drew)); exact HO_5.out) (Kd.R_base ho16) hb); have n1_ := zA (Kd.R_lower (Kd.R_newM (M := fun k_ => (w.heap.size ≤ k_)) ho16 (zL (by repeat (first | (with_reducible first | exact HB.out | apply zC | apply zB | apply zF | refine zE ?_ GE131.out) | exact HB.out))) (fun k_ h_ => h_)) (zL (by repeat (first | (with_reducible first | exact HB.out | apply zC | apply zB | apply zF | refine zE ?_ GE131.out) | exact HB.out)))); have n2_ := zA (blk_below (g := gb131) (o := .cells #[.int .i64 a0_0, .int .i64 a0_1, .int .i64 a0_2, .int .i64 a0_3, .slice A0_4 l0_4.length c0_4] 26 (0, 0)) (by (with_reducible repeat (first | refine zG ?_ _ | refine zH ?_ | refine zD ?_ _)); exact BK131.out) hb); have n3_ := zA (below_step (by repeat (first | (with_reducible first | exact HB.out | apply zC | apply zB | apply zF | refine zE ?_ GE131.out) | exact HB.out)) hb); clear HO_5; clear BK131; clear HB; have HO_5 := n0_; have HO139 := n1_; have BK131 := n2_; have HB := n3_; clear n0_ n1_ n2_ n3_; clear hb ho16))
    go_loopg [6, 7] kj2 (fun kq v6 v7 w' => ∃ (x6_2 : List Int) (x7_2 : Int), v7 = .int .i64 x7_2 ∧ Aside0 (spec_ScriptFor.l0 kq a1 y132 x6_2 x7_2 a0_0 a0_1 a0_2 a0_3 l0_4 = some r) ∧ Aside0 (kq ≤ kj2) ∧ Aside0 (Kd.N k38 38 w' w.heap.size (fun k_ => (w.heap.size ≤ k_) ∧ some k_ ≠ (v6 : Value).ownBlock ∧ k_ ≠ gb131) v133 y132) ∧ Aside0 (Kd.R (Kd.int .i64) 3 w' w.heap.size (fun k_ => (w.heap.size ≤ k_)) v6 x6_2) ∧ Aside0 (w'.heap[gb131]? = some (.cells #[.int .i64 a0_0, .int .i64 a0_1, .int .i64 a0_2, .int .i64 a0_3, (.slice A0_4 l0_4.length c0_4)] 26 (0, 0))) ∧ Aside0 (Below w.heap.size w w'))
    case atStart => exact ⟨(y137), (0), (by first | rfl | (simp; done) | (simp [*]; done)), H', ⟨Nat.le_refl _⟩, ⟨by (with_reducible repeat (first | apply Kd.N_alloc | apply Kd.N_drewN | apply Kd.N_drew)); exact Kd.N_mono HO_5.out (fun _ hk => ⟨hk.1.1, ⟨hk.2, hk.1.2⟩⟩)⟩, ⟨by (with_reducible repeat (first | apply zN | apply zM | apply zO)); exact zP HO139.out (fun _ hk => hk.1)⟩, ⟨by (with_reducible repeat (first | refine zG ?_ _ | refine zH ?_ | refine zD ?_ _)); exact BK131.out⟩, ⟨by repeat (first | (with_reducible first | exact HB.out | apply zC | apply zB | apply zF | refine zE ?_ GE131.out) | exact HB.out)⟩⟩
    case round =>
     clear H'
     try clear c1
     try clear p2
     try clear c8
     try clear c11
     try clear c12
     try clear c14
     try clear hcz10_0
     try clear hcz10_1
     try clear hcz10_2
     try clear hcz10_3
     try clear hcz10_4
     try clear hcz12_0
     try clear hcz12_1
     try clear hcz12_2
     try clear hcz12_3
     try clear hcz12_4
     try clear hfz10_0
     try clear hfz10_1
     try clear hfz10_2
     try clear hfz10_3
     try clear hfz10_4
     try clear hfz12_0
     try clear hfz12_1
     try clear hfz12_2
     try clear hfz12_3
     try clear hfz12_4
     try clear p2
     obtain ⟨x6_2, x7_2, rfl, HA, HK2, HO_5, HO_6, BK131, HB⟩ := hrel
     cases gk with
     | zero => exact absurd HA.out (by simp [spec_ScriptFor.l0])
     | succ k2 =>
      have H := HA.out
      clear HA
      simp only [spec_ScriptFor.l0] at H
      by_cases c17 : x7_2 < (l0_4.length : Int)
      ·rw [if_pos c17] at H
       have c17b0 : decide (x7_2 < (l0_4.length : Int)) = true := zT c17
       clear c17
       by_cases c18 : x6_2.length < 17592186044416
       ·rw [if_pos c18] at H
        have LMc18 := zA c18
        clear c18
        obtain ⟨y140, hy140⟩ : ∃ y_ : List Int, y_ = (x6_2 ++ [x7_2]) := ⟨_, rfl⟩
        replace H : (spec_ScriptFor.l0 k2 a1 y132 y140 (wrap64 (x7_2 + 1)) a0_0 a0_1 a0_2 a0_3 l0_4) = some r := by first | (rw [hy140]; with_reducible exact H) | (have H2_ := (zS _ _).symm.trans H; rw [hy140]; with_reducible exact H2_) | (have H2_ := (zS _ _).symm.trans H; with_reducible exact H2_) | with_reducible exact H | (rw [hy140]; exact H) | exact H
        have Ny140 := zA hy140
        clear hy140
        have H' := zA H
        clear H
        have hcz19_0 : wr.cell? ⟨gb131, 0, none⟩ = some (.int .i64 a0_0) := (zK BK131.out 0).trans rfl
        have hcz19_1 : wr.cell? ⟨gb131, 1, none⟩ = some (.int .i64 a0_1) := (zK BK131.out 1).trans rfl
        have hcz19_2 : wr.cell? ⟨gb131, 2, none⟩ = some (.int .i64 a0_2) := (zK BK131.out 2).trans rfl
        have hcz19_3 : wr.cell? ⟨gb131, 3, none⟩ = some (.int .i64 a0_3) := (zK BK131.out 3).trans rfl
        have hcz19_4 : wr.cell? ⟨gb131, 4, none⟩ = some (.slice A0_4 l0_4.length c0_4) := (zK BK131.out 4).trans rfl
        have hfz19_0 := zJ BK131.out 0
        have hfz19_1 := zJ BK131.out 1
        have hfz19_2 := zJ BK131.out 2
        have hfz19_3 := zJ BK131.out 3
        have hfz19_4 := zJ BK131.out 4
        go_wp2_with (first | ((with_reducible refine gate_builtin (b := .append) (xs := #[.tmp 30, .tmp 32]) rfl ?_); at_builtin; refine Kd.R_append (Kd.int .i64) (w0 := w) w.heap.size rfl (.tmp 30) (.tmp 32) 36 3 (.int .i64 0) 8 rfl Try.underlying36 info3 rfl (by decide) (by omega) u6 x6_2 x7_2 [.int .i64 x7_2] (fun k_ => (w.heap.size ≤ k_)) (fun _ => False) rfl rfl ?aP (fun _ hk => hk.elim) ?aF ?aO ?aB ?aS ?aL ?_; (case aP => exact rfl); (case aB => exact (by repeat (first | (with_reducible first | exact HB.out | apply zC | apply zB | apply zF | refine zE ?_ GE131.out) | exact HB.out))); (case aF => exact (fun k_ hk => (Nat.le_trans (zL (by repeat (first | (with_reducible first | exact HB.out | apply zC | apply zB | apply zF | refine zE ?_ GE131.out) | exact HB.out))) hk))); (case aO => exact (by (with_reducible repeat (first | apply zN | apply zM | apply zO)); exact HO_6.out)); (case aS => exact (zL (by repeat (first | (with_reducible first | exact HB.out | apply zC | apply zB | apply zF | refine zE ?_ GE131.out) | exact HB.out)))); (case aL => have := LMc18.out; omega); intro v141 w20 ho hb hg hat; rw [← Ny140.out] at ho; have n0_ := zA (Kd.N_afterv (ok := (fun k_ => (w.heap.size ≤ k_) ∧ k_ ≠ gb131)) (by (with_reducible repeat (first | apply Kd.N_alloc | apply Kd.N_drewN | apply Kd.N_drew)); exact Kd.N_mono HO_5.out (fun _ hk => ⟨⟨hk.1, hk.2.2⟩, hk.2.1⟩)) hg hat); have n1_ := zA (blk_grown (g := gb131) (o := .cells #[.int .i64 a0_0, .int .i64 a0_1, .int .i64 a0_2, .int .i64 a0_3, .slice A0_4 l0_4.length c0_4] 26 (0, 0)) (by (with_reducible repeat (first | refine zG ?_ _ | refine zH ?_ | refine zD ?_ _)); exact BK131.out) hg (Kd.R_ne HO_6.out BK131.out (by decide))); have n2_ := zA (hb); have n3_ := zA (ho); clear HO_5; clear BK131; clear HB; clear HO_6; have HO_5 := n0_; have BK131 := n1_; have HB := n2_; have HO142 := n3_; clear n0_ n1_ n2_ n3_; clear ho hb hg hat))
        go_roundg k2
        case measure => have := HJ2.out; have := HK2.out; omega
        case rel => exact ⟨(y140), (wrap64 (x7_2 + 1)), (by first | rfl | (simp; done) | (simp [*]; done)), H', ⟨by have := HJ2.out; have := HK2.out; omega⟩, ⟨by (with_reducible repeat (first | apply Kd.N_alloc | apply Kd.N_drewN | apply Kd.N_drew)); exact Kd.N_mono HO_5.out (fun _ hk => ⟨hk.1.1, ⟨hk.2, hk.1.2⟩⟩)⟩, ⟨by (with_reducible repeat (first | apply zN | apply zM | apply zO)); exact HO142.out⟩, ⟨by (with_reducible repeat (first | refine zG ?_ _ | refine zH ?_ | refine zD ?_ _)); exact BK131.out⟩, ⟨by repeat (first | (with_reducible first | exact HB.out | apply zC | apply zB | apply zF | refine zE ?_ GE131.out) | exact HB.out)⟩⟩
       ·rw [if_neg c18] at H
        exact absurd H (by simp)
      ·rw [if_neg c17] at H
       have c17b0 : decide (x7_2 < (l0_4.length : Int)) = false := decide_eq_false c17
       clear c17
       by_cases c21 : a1 = 0
       ·rw [if_pos c21] at H
        have c21b0 : (a1 == 0) = true := beq_iff_eq.mpr c21
        have c21b1 : (a1 != 0) = false := bne_eq_false_iff_eq.mpr c21
        clear c21
        by_cases c22 : y132.length < 2513169434916
        ·rw [if_pos c22] at H
         have LMc22 := zA c22
         clear c22
         obtain ⟨y143, hy143⟩ : ∃ y_ : List (S38), y_ = (y132 ++ [(⟨x6_2, 0, 63, 0, 0⟩ : S38)]) := ⟨_, rfl⟩
         replace H : (some y143) = some r := by first | (rw [hy143]; with_reducible exact H) | (have H2_ := (zS _ _).symm.trans H; rw [hy143]; with_reducible exact H2_) | (have H2_ := (zS _ _).symm.trans H; with_reducible exact H2_) | with_reducible exact H | (rw [hy143]; exact H) | exact H
         have Ny143 := zA hy143
         clear hy143
         obtain rfl := Option.some.inj H
         have hcz23_0 : wr.cell? ⟨gb131, 0, none⟩ = some (.int .i64 a0_0) := (zK BK131.out 0).trans rfl
         have hcz23_1 : wr.cell? ⟨gb131, 1, none⟩ = some (.int .i64 a0_1) := (zK BK131.out 1).trans rfl
         have hcz23_2 : wr.cell? ⟨gb131, 2, none⟩ = some (.int .i64 a0_2) := (zK BK131.out 2).trans rfl
         have hcz23_3 : wr.cell? ⟨gb131, 3, none⟩ = some (.int .i64 a0_3) := (zK BK131.out 3).trans rfl
         have hcz23_4 : wr.cell? ⟨gb131, 4, none⟩ = some (.slice A0_4 l0_4.length c0_4) := (zK BK131.out 4).trans rfl
         have hfz23_0 := zJ BK131.out 0
         have hfz23_1 := zJ BK131.out 1
         have hfz23_2 := zJ BK131.out 2
         have hfz23_3 := zJ BK131.out 3
         have hfz23_4 := zJ BK131.out 4
         obtain ⟨Ao24, co24, eo24⟩ := Kd.R_slice HO_6.out
         subst eo24
         go_wp2_with (first | ((with_reducible refine gate_builtin (b := .append) (xs := #[.tmp 36, .tmp 39]) rfl ?_); at_builtin; refine Kd.N_append k38 (w0 := w) w.heap.size rfl (.tmp 36) (.tmp 39) 27 38 (.agg #[(.slice none 0 0), (.int .i64 0), (.int .i64 0), (.int .i64 0), (.int .i64 0)]) 56 rfl Try.underlying27 info38 rfl (by decide) (by omega) v133 y132 (⟨x6_2, 0, 63, 0, 0⟩ : S38) [.slice Ao24 x6_2.length co24, .int .i64 0, .int .i64 63, .int .i64 0, .int .i64 0] (fun k_ => (w.heap.size ≤ k_) ∧ k_ ≠ gb131) (fun k_ => ((fun k_ => (w.heap.size ≤ k_) ∧ k_ ≠ gb131)) k_ ∧ some k_ ≠ (v133 : Value).ownBlock) rfl rfl ?aP (fun _ hk => hk) ?aF ?aO ?aB ?aS ?aL ?_; (case aP => exact (k38_mkF _ _ (⟨x6_2, 0, 63, 0, 0⟩ : S38) (yK (zP (ok' := (fun k_ => ((fun k_ => (w.heap.size ≤ k_) ∧ k_ ≠ gb131)) k_ ∧ some k_ ≠ (v133 : Value).ownBlock)) (zY (Kd.R_apart' (HO_6.out) (Kd.N_typed HO_5.out) (by decide)) BK131.out (by decide)) (fun k_ hk => ⟨⟨hk.1.1, hk.2⟩, hk.1.2⟩))).2.1 (Kd.R_F (zP (ok' := (fun k_ => ((fun k_ => (w.heap.size ≤ k_) ∧ k_ ≠ gb131)) k_ ∧ some k_ ≠ (v133 : Value).ownBlock)) (zY (Kd.R_apart' (HO_6.out) (Kd.N_typed HO_5.out) (by decide)) BK131.out (by decide)) (fun k_ hk => ⟨⟨hk.1.1, hk.2⟩, hk.1.2⟩))))); (case aB => exact (by repeat (first | (with_reducible first | exact HB.out | apply zC | apply zB | apply zF | refine zE ?_ GE131.out) | exact HB.out))); (case aF => exact (fun k_ hk => ⟨(Nat.le_trans (zL (by repeat (first | (with_reducible first | exact HB.out | apply zC | apply zB | apply zF | refine zE ?_ GE131.out) | exact HB.out))) hk), Kd.freshB (g := gb131) (o := .cells #[.int .i64 a0_0, .int .i64 a0_1, .int .i64 a0_2, .int .i64 a0_3, .slice A0_4 l0_4.length c0_4] 26 (0, 0)) (by (with_reducible repeat (first | refine zG ?_ _ | refine zH ?_ | refine zD ?_ _)); exact BK131.out) k_ hk⟩)); (case aO => exact (by (with_reducible repeat (first | apply Kd.N_alloc | apply Kd.N_drewN | apply Kd.N_drew)); exact Kd.N_mono HO_5.out (fun _ hk => ⟨hk.1, hk.2.2⟩))); (case aS => exact (zL (by repeat (first | (with_reducible first | exact HB.out | apply zC | apply zB | apply zF | refine zE ?_ GE131.out) | exact HB.out)))); (case aL => have := LMc22.out; omega); intro v144 w25 ho hb hg hat; rw [← Ny143.out] at ho; have n0_ := zA (blk_grown (g := gb131) (o := .cells #[.int .i64 a0_0, .int .i64 a0_1, .int .i64 a0_2, .int .i64 a0_3, .slice A0_4 l0_4.length c0_4] 26 (0, 0)) (by (with_reducible repeat (first | refine zG ?_ _ | refine zH ?_ | refine zD ?_ _)); exact BK131.out) hg (Kd.N_ne HO_5.out BK131.out (by decide))); have n1_ := zA (hb); have n2_ := zA (ho); clear BK131; clear HB; clear HO_5; clear HO_6; have BK131 := n0_; have HB := n1_; have HO145 := n2_; clear n0_ n1_ n2_; clear ho hb hg hat))
         go_ret
         exact ⟨_, by first | rfl | (simp [errW_none, errW_some] <;> rfl) | (simp [*, errW_none, errW_some] <;> rfl), by (with_reducible repeat (first | apply Kd.N_alloc | apply Kd.N_drewN | apply Kd.N_drew)); exact Kd.N_mono HO145.out (fun _ hk => hk.1), by repeat (first | (with_reducible first | exact HB.out | apply zC | apply zB | apply zF | refine zE ?_ GE131.out) | exact HB.out)⟩
        ·rw [if_neg c22] at H
         exact absurd H (by simp)
       ·rw [if_neg c21] at H
        have c21b0 : (a1 == 0) = false := beq_eq_false_iff_ne.mpr c21
        have c21b1 : (a1 != 0) = true := bne_iff_ne.mpr c21
        by_cases c26 : a1 = 1
        ·rw [if_pos c26] at H
         have c26b0 : (a1 == 1) = true := beq_iff_eq.mpr c26
         have c26b1 : (a1 != 1) = false := bne_eq_false_iff_eq.mpr c26
         clear c26
         have H' := zA H
         clear H
         have hcz27_0 : wr.cell? ⟨gb131, 0, none⟩ = some (.int .i64 a0_0) := (zK BK131.out 0).trans rfl
         have hcz27_1 : wr.cell? ⟨gb131, 1, none⟩ = some (.int .i64 a0_1) := (zK BK131.out 1).trans rfl
         have hcz27_2 : wr.cell? ⟨gb131, 2, none⟩ = some (.int .i64 a0_2) := (zK BK131.out 2).trans rfl
         have hcz27_3 : wr.cell? ⟨gb131, 3, none⟩ = some (.int .i64 a0_3) := (zK BK131.out 3).trans rfl
         have hcz27_4 : wr.cell? ⟨gb131, 4, none⟩ = some (.slice A0_4 l0_4.length c0_4) := (zK BK131.out 4).trans rfl
         have hfz27_0 := zJ BK131.out 0
         have hfz27_1 := zJ BK131.out 1
         have hfz27_2 := zJ BK131.out 2
         have hfz27_3 := zJ BK131.out 3
         have hfz27_4 := zJ BK131.out 4
         go_wp2
         go_loopg [5, 8] k2 (fun kq v5 v8 w' => ∃ (x5_3 : List (S38)) (x8_3 : Int), v8 = .int .i64 x8_3 ∧ Aside0 (spec_ScriptFor.l1 kq x5_3 x6_2 x8_3 = some r) ∧ Aside0 (kq ≤ k2) ∧ Aside0 (Kd.N k38 38 w' w.heap.size (fun k_ => (w.heap.size ≤ k_) ∧ some k_ ≠ (u6 : Value).ownBlock ∧ k_ ≠ gb131) v5 x5_3) ∧ Aside0 (Kd.R (Kd.int .i64) 3 w' w.heap.size (fun k_ => (w.heap.size ≤ k_)) u6 x6_2) ∧ Aside0 (w'.heap[gb131]? = some (.cells #[.int .i64 a0_0, .int .i64 a0_1, .int .i64 a0_2, .int .i64 a0_3, (.slice A0_4 l0_4.length c0_4)] 26 (0, 0))) ∧ Aside0 (Below w.heap.size w w'))
         case atStart => exact ⟨(y132), (0), (by first | rfl | (simp; done) | (simp [*]; done)), H', ⟨Nat.le_refl _⟩, ⟨by (with_reducible repeat (first | apply Kd.N_alloc | apply Kd.N_drewN | apply Kd.N_drew)); exact HO_5.out⟩, ⟨by (with_reducible repeat (first | apply zN | apply zM | apply zO)); exact HO_6.out⟩, ⟨by (with_reducible repeat (first | refine zG ?_ _ | refine zH ?_ | refine zD ?_ _)); exact BK131.out⟩, ⟨by repeat (first | (with_reducible first | exact HB.out | apply zC | apply zB | apply zF | refine zE ?_ GE131.out) | exact HB.out)⟩⟩
         case round =>
          clear H'
          try clear c1
          try clear c2
          try clear p2
          try clear p6
          try clear c8
          try clear c11
          try clear c12
          try clear c14
          try clear c17
          try clear c17b0
          try clear c18
          try clear c21
          try clear c21b0
          try clear c21b1
          try clear c22
          try clear c26
          try clear c26b0
          try clear c26b1
          try clear hcz10_0
          try clear hcz10_1
          try clear hcz10_2
          try clear hcz10_3
          try clear hcz10_4
          try clear hcz12_0
          try clear hcz12_1
          try clear hcz12_2
          try clear hcz12_3
          try clear hcz12_4
          try clear hcz19_0
          try clear hcz19_1
          try clear hcz19_2
          try clear hcz19_3
          try clear hcz19_4
          try clear hcz23_0
          try clear hcz23_1
          try clear hcz23_2
          try clear hcz23_3
          try clear hcz23_4
          try clear hcz27_0
          try clear hcz27_1
          try clear hcz27_2
          try clear hcz27_3
          try clear hcz27_4
          try clear hfz10_0
          try clear hfz10_1
          try clear hfz10_2
          try clear hfz10_3
          try clear hfz10_4
          try clear hfz12_0
          try clear hfz12_1
          try clear hfz12_2
          try clear hfz12_3
          try clear hfz12_4
          try clear hfz19_0
          try clear hfz19_1
          try clear hfz19_2
          try clear hfz19_3
          try clear hfz19_4
          try clear hfz23_0
          try clear hfz23_1
          try clear hfz23_2
          try clear hfz23_3
          try clear hfz23_4
          try clear hfz27_0
          try clear hfz27_1
          try clear hfz27_2
          try clear hfz27_3
          try clear hfz27_4
          try clear p2
          obtain ⟨x5_3, x8_3, rfl, HA, HK3, HO_5, HO_6, BK131, HB⟩ := hrel
          cases gk with
          | zero => exact absurd HA.out (by simp [spec_ScriptFor.l1])
          | succ k3 =>
           have H := HA.out
           clear HA
           simp only [spec_ScriptFor.l1] at H
           by_cases c28 : x8_3 < (x6_2.length : Int)
           ·rw [if_pos c28] at H
            have c28b0 : decide (x8_3 < (x6_2.length : Int)) = true := zT c28
            clear c28
            obtain ⟨y146, hy146⟩ : ∃ y_ : List Int, y_ = (([x8_3] : List Int)) := ⟨_, rfl⟩
            replace H : (if x5_3.length < 2513169434916 then (spec_ScriptFor.l1 k3 (x5_3 ++ [(⟨y146, 0, 63, 0, 0⟩ : S38)]) x6_2 (wrap64 (x8_3 + 1))) else (none)) = some r := by first | (rw [hy146]; with_reducible exact H) | (have H2_ := (zS _ _).symm.trans H; rw [hy146]; with_reducible exact H2_) | (have H2_ := (zS _ _).symm.trans H; with_reducible exact H2_) | with_reducible exact H | (rw [hy146]; exact H) | exact H
            have Ny146 := zA hy146
            clear hy146
            by_cases c29 : x5_3.length < 2513169434916
            ·rw [if_pos c29] at H
             have LMc29 := zA c29
             clear c29
             obtain ⟨y149, hy149⟩ : ∃ y_ : List (S38), y_ = (x5_3 ++ [(⟨y146, 0, 63, 0, 0⟩ : S38)]) := ⟨_, rfl⟩
             replace H : (spec_ScriptFor.l1 k3 y149 x6_2 (wrap64 (x8_3 + 1))) = some r := by first | (rw [hy149]; with_reducible exact H) | (have H2_ := (zS _ _).symm.trans H; rw [hy149]; with_reducible exact H2_) | (have H2_ := (zS _ _).symm.trans H; with_reducible exact H2_) | with_reducible exact H | (rw [hy149]; exact H) | exact H
             have Ny149 := zA hy149
             clear hy149
             have H' := zA H
             clear H
             obtain ⟨Ao30, co30, eo30⟩ := Kd.R_slice HO_6.out
             subst eo30
             go_wp2_with (first | ((with_reducible refine gate_dst (N := 51) rfl ?_); refine Kd.R_lit (Kd.int .i64) _ 3 ?hg (N := 51) ?hd (xs := ([x8_3] : List Int)) (inner := [.int .i64 x8_3]) (ok := fun _ => True) (okp := fun _ => True) ?hr ?hp (fun _ hk => hk) trivial (Below.refl _ _) (Nat.le_refl _) (by simp) ?_; (case hd => rfl); (case hg => rfl); (case hr => first | (go_simp; done) | (go_simp; rfl)); (case hp => exact (Reps.one (show Kd.M (Kd.int .i64) _ _ _ x8_3 [.int .i64 x8_3] from rfl) (Reps.none _ _))); intro v147 w31 ho32 hb hg_ hnew_; clear hg_ hnew_; (first | rw [← Ny146.out] at ho32 | (simp only [Int.reduceToNat] at ho32; rw [← Ny146.out] at ho32)); have n0_ := zA (Kd.N_elder' (by (with_reducible repeat (first | apply Kd.N_alloc | apply Kd.N_drewN | apply Kd.N_drew)); exact HO_5.out) (Kd.R_base ho32) hb); have n1_ := zA (Kd.R_elder' (by (with_reducible repeat (first | apply zN | apply zM | apply zO)); exact HO_6.out) (Kd.R_base ho32) hb); have n2_ := zA (Kd.R_lower (Kd.R_new' (Kd.R_newM (M := fun k_ => (w.heap.size ≤ k_)) ho32 (zL (by repeat (first | (with_reducible first | exact HB.out | apply zC | apply zB | apply zF | refine zE ?_ GE131.out) | exact HB.out))) (fun k_ h_ => h_)) (Kd.R_lt (by (with_reducible repeat (first | apply zN | apply zM | apply zO)); exact HO_6.out))) (zL (by repeat (first | (with_reducible first | exact HB.out | apply zC | apply zB | apply zF | refine zE ?_ GE131.out) | exact HB.out)))); have n3_ := zA (blk_below (g := gb131) (o := .cells #[.int .i64 a0_0, .int .i64 a0_1, .int .i64 a0_2, .int .i64 a0_3, .slice A0_4 l0_4.length c0_4] 26 (0, 0)) (by (with_reducible repeat (first | refine zG ?_ _ | refine zH ?_ | refine zD ?_ _)); exact BK131.out) hb); have n4_ := zA (below_step (by repeat (first | (with_reducible first | exact HB.out | apply zC | apply zB | apply zF | refine zE ?_ GE131.out) | exact HB.out)) hb); clear HO_5; clear HO_6; clear BK131; clear HB; have HO_5 := n0_; have HO_6 := n1_; have HO148 := n2_; have BK131 := n3_; have HB := n4_; clear n0_ n1_ n2_ n3_ n4_; clear hb ho32; obtain ⟨Ao33, co33, eo33⟩ := Kd.R_slice HO148.out; subst eo33) | ((with_reducible refine gate_builtin (b := .append) (xs := #[.tmp 49, .tmp 53]) rfl ?_); at_builtin; refine Kd.N_append k38 (w0 := w) w.heap.size rfl (.tmp 49) (.tmp 53) 27 38 (.agg #[(.slice none 0 0), (.int .i64 0), (.int .i64 0), (.int .i64 0), (.int .i64 0)]) 56 rfl Try.underlying27 info38 rfl (by decide) (by omega) u5 x5_3 (⟨y146, 0, 63, 0, 0⟩ : S38) [.slice Ao33 y146.length co33, .int .i64 0, .int .i64 63, .int .i64 0, .int .i64 0] (fun k_ => (w.heap.size ≤ k_) ∧ some k_ ≠ (.slice Ao30 x6_2.length co30 : Value).ownBlock ∧ k_ ≠ gb131) (fun k_ => ((fun k_ => (w.heap.size ≤ k_) ∧ some k_ ≠ (.slice Ao30 x6_2.length co30 : Value).ownBlock ∧ k_ ≠ gb131)) k_ ∧ some k_ ≠ (u5 : Value).ownBlock) rfl rfl ?aP (fun _ hk => hk) ?aF ?aO ?aB ?aS ?aL ?_; (case aP => exact (k38_mkF _ _ (⟨y146, 0, 63, 0, 0⟩ : S38) (yK (zP (ok' := (fun k_ => ((fun k_ => (w.heap.size ≤ k_) ∧ some k_ ≠ (.slice Ao30 x6_2.length co30 : Value).ownBlock ∧ k_ ≠ gb131)) k_ ∧ some k_ ≠ (u5 : Value).ownBlock)) (zY (Kd.R_apart' (HO148.out) (Kd.N_typed HO_5.out) (by decide)) BK131.out (by decide)) (fun k_ hk => ⟨⟨hk.1.1.1.1, ⟨hk.1.1.2, hk.2⟩⟩, hk.1.2⟩))).2.1 (Kd.R_F (zP (ok' := (fun k_ => ((fun k_ => (w.heap.size ≤ k_) ∧ some k_ ≠ (.slice Ao30 x6_2.length co30 : Value).ownBlock ∧ k_ ≠ gb131)) k_ ∧ some k_ ≠ (u5 : Value).ownBlock)) (zY (Kd.R_apart' (HO148.out) (Kd.N_typed HO_5.out) (by decide)) BK131.out (by decide)) (fun k_ hk => ⟨⟨hk.1.1.1.1, ⟨hk.1.1.2, hk.2⟩⟩, hk.1.2⟩))))); (case aB => exact (by repeat (first | (with_reducible first | exact HB.out | apply zC | apply zB | apply zF | refine zE ?_ GE131.out) | exact HB.out))); (case aF => exact (fun k_ hk => ⟨(Nat.le_trans (zL (by repeat (first | (with_reducible first | exact HB.out | apply zC | apply zB | apply zF | refine zE ?_ GE131.out) | exact HB.out))) hk), Kd.fresh' (Kd.R_lt (by (with_reducible repeat (first | apply zN | apply zM | apply zO)); exact HO_6.out)) k_ hk, Kd.freshB (g := gb131) (o := .cells #[.int .i64 a0_0, .int .i64 a0_1, .int .i64 a0_2, .int .i64 a0_3, .slice A0_4 l0_4.length c0_4] 26 (0, 0)) (by (with_reducible repeat (first | refine zG ?_ _ | refine zH ?_ | refine zD ?_ _)); exact BK131.out) k_ hk⟩)); (case aO => exact (by (with_reducible repeat (first | apply Kd.N_alloc | apply Kd.N_drewN | apply Kd.N_drew)); exact Kd.N_mono HO_5.out (fun _ hk => ⟨hk.1.1, ⟨hk.1.2.1, hk.1.2.2⟩⟩))); (case aS => exact (zL (by repeat (first | (with_reducible first | exact HB.out | apply zC | apply zB | apply zF | refine zE ?_ GE131.out) | exact HB.out)))); (case aL => have := LMc29.out; omega); intro v150 w34 ho hb hg hat; rw [← Ny149.out] at ho; have n0_ := zA (Kd.R_over' (by (with_reducible repeat (first | apply zN | apply zM | apply zO)); exact HO_6.out) (Kd.N_typed (by (with_reducible repeat (first | apply Kd.N_alloc | apply Kd.N_drewN | apply Kd.N_drew)); exact HO_5.out)) (by decide) hg); have n1_ := zA (blk_grown (g := gb131) (o := .cells #[.int .i64 a0_0, .int .i64 a0_1, .int .i64 a0_2, .int .i64 a0_3, .slice A0_4 l0_4.length c0_4] 26 (0, 0)) (by (with_reducible repeat (first | refine zG ?_ _ | refine zH ?_ | refine zD ?_ _)); exact BK131.out) hg (Kd.N_ne HO_5.out BK131.out (by decide))); have n2_ := zA (hb); have n3_ := zA (ho); clear HO_6; clear BK131; clear HB; clear HO_5; clear HO148; have HO_6 := n0_; have BK131 := n1_; have HB := n2_; have HO151 := n3_; clear n0_ n1_ n2_ n3_; clear ho hb hg hat))
             go_roundg k3
             case measure => have := HJ2.out; have := HK2.out; have := HK3.out; omega
             case rel => exact ⟨(y149), (wrap64 (x8_3 + 1)), (by first | rfl | (simp; done) | (simp [*]; done)), H', ⟨by have := HJ2.out; have := HK2.out; have := HK3.out; omega⟩, ⟨by (with_reducible repeat (first | apply Kd.N_alloc | apply Kd.N_drewN | apply Kd.N_drew)); exact HO151.out⟩, ⟨by (with_reducible repeat (first | apply zN | apply zM | apply zO)); exact zP HO_6.out (fun _ hk => hk.1)⟩, ⟨by (with_reducible repeat (first | refine zG ?_ _ | refine zH ?_ | refine zD ?_ _)); exact BK131.out⟩, ⟨by repeat (first | (with_reducible first | exact HB.out | apply zC | apply zB | apply zF | refine zE ?_ GE131.out) | exact HB.out)⟩⟩
            ·rw [if_neg c29] at H
             exact absurd H (by simp)
           ·rw [if_neg c28] at H
            have c28b0 : decide (x8_3 < (x6_2.length : Int)) = false := decide_eq_false c28
            clear c28
            obtain rfl := Option.some.inj H
            obtain ⟨Ao35, co35, eo35⟩ := Kd.R_slice HO_6.out
            subst eo35
            go_wp2
            go_ret
            exact ⟨_, by first | rfl | (simp [errW_none, errW_some] <;> rfl) | (simp [*, errW_none, errW_some] <;> rfl), by (with_reducible repeat (first | apply Kd.N_alloc | apply Kd.N_drewN | apply Kd.N_drew)); exact Kd.N_mono HO_5.out (fun _ hk => hk.1), by repeat (first | (with_reducible first | exact HB.out | apply zC | apply zB | apply zF | refine zE ?_ GE131.out) | exact HB.out)⟩
        ·rw [if_neg c26] at H
         have c26b0 : (a1 == 1) = false := beq_eq_false_iff_ne.mpr c26
         have c26b1 : (a1 != 1) = true := bne_iff_ne.mpr c26
         obtain ⟨y152, hy152⟩ : ∃ y_ : List Int, y_ = (([] : List Int)) := ⟨_, rfl⟩
         replace H : (if y152.length + x6_2.length < 17592186044416 then (if y132.length < 2513169434916 then (spec_ScriptFor.l2 k2 (y132 ++ [(⟨(y152 ++ x6_2), 0, 0, 0, 1⟩ : S38)]) x6_2 0) else (none)) else (none)) = some r := by first | (rw [hy152]; with_reducible exact H) | (have H2_ := (zS _ _).symm.trans H; rw [hy152]; with_reducible exact H2_) | (have H2_ := (zS _ _).symm.trans H; with_reducible exact H2_) | with_reducible exact H | (rw [hy152]; exact H) | exact H
         have Ny152 := zA hy152
         clear hy152
         by_cases c36 : y152.length + x6_2.length < 17592186044416
         ·rw [if_pos c36] at H
          have LMc36 := zA c36
          clear c36
          obtain ⟨y155, hy155⟩ : ∃ y_ : List Int, y_ = (y152 ++ x6_2) := ⟨_, rfl⟩
          replace H : (if y132.length < 2513169434916 then (spec_ScriptFor.l2 k2 (y132 ++ [(⟨y155, 0, 0, 0, 1⟩ : S38)]) x6_2 0) else (none)) = some r := by first | (rw [hy155]; with_reducible exact H) | (have H2_ := (zS _ _).symm.trans H; rw [hy155]; with_reducible exact H2_) | (have H2_ := (zS _ _).symm.trans H; with_reducible exact H2_) | with_reducible exact H | (rw [hy155]; exact H) | exact H
          have Ny155 := zA hy155
          clear hy155
          by_cases c37 : y132.length < 2513169434916
          ·rw [if_pos c37] at H
           have LMc37 := zA c37
           clear c37
           obtain ⟨y158, hy158⟩ : ∃ y_ : List (S38), y_ = (y132 ++ [(⟨y155, 0, 0, 0, 1⟩ : S38)]) := ⟨_, rfl⟩
           replace H : (spec_ScriptFor.l2 k2 y158 x6_2 0) = some r := by first | (rw [hy158]; with_reducible exact H) | (have H2_ := (zS _ _).symm.trans H; rw [hy158]; with_reducible exact H2_) | (have H2_ := (zS _ _).symm.trans H; with_reducible exact H2_) | with_reducible exact H | (rw [hy158]; exact H) | exact H
           have Ny158 := zA hy158
           clear hy158
           have H' := zA H
           clear H
           have hcz38_0 : wr.cell? ⟨gb131, 0, none⟩ = some (.int .i64 a0_0) := (zK BK131.out 0).trans rfl
           have hcz38_1 : wr.cell? ⟨gb131, 1, none⟩ = some (.int .i64 a0_1) := (zK BK131.out 1).trans rfl
           have hcz38_2 : wr.cell? ⟨gb131, 2, none⟩ = some (.int .i64 a0_2) := (zK BK131.out 2).trans rfl
           have hcz38_3 : wr.cell? ⟨gb131, 3, none⟩ = some (.int .i64 a0_3) := (zK BK131.out 3).trans rfl
           have hcz38_4 : wr.cell? ⟨gb131, 4, none⟩ = some (.slice A0_4 l0_4.length c0_4) := (zK BK131.out 4).trans rfl
           have hfz38_0 := zJ BK131.out 0
           have hfz38_1 := zJ BK131.out 1
           have hfz38_2 := zJ BK131.out 2
           have hfz38_3 := zJ BK131.out 3
           have hfz38_4 := zJ BK131.out 4
           go_wp2_with (first | ((with_reducible refine gate_dst (N := 57) rfl ?_); refine Kd.R_lit (Kd.int .i64) _ 3 ?hg (N := 57) ?hd (xs := ([] : List Int)) (inner := []) (ok := fun _ => True) (okp := fun _ => True) ?hr ?hp (fun _ hk => hk) trivial (Below.refl _ _) (Nat.le_refl _) (by simp) ?_; (case hd => rfl); (case hg => rfl); (case hr => first | (go_simp; done) | (go_simp; rfl)); (case hp => exact (Reps.none _ _)); intro v153 w39 ho40 hb hg_ hnew_; clear hg_ hnew_; (first | rw [← Ny152.out] at ho40 | (simp only [Int.reduceToNat] at ho40; rw [← Ny152.out] at ho40)); have n0_ := zA (Kd.N_elder' (by (with_reducible repeat (first | apply Kd.N_alloc | apply Kd.N_drewN | apply Kd.N_drew)); exact HO_5.out) (Kd.R_base ho40) hb); have n1_ := zA (Kd.R_elder' (by (with_reducible repeat (first | apply zN | apply zM | apply zO)); exact HO_6.out) (Kd.R_base ho40) hb); have n2_ := zA (Kd.R_lower (Kd.R_new' (Kd.R_newM (M := fun k_ => (w.heap.size ≤ k_)) ho40 (zL (by repeat (first | (with_reducible first | exact HB.out | apply zC | apply zB | apply zF | refine zE ?_ GE131.out) | exact HB.out))) (fun k_ h_ => h_)) (Kd.R_lt (by (with_reducible repeat (first | apply zN | apply zM | apply zO)); exact HO_6.out))) (zL (by repeat (first | (with_reducible first | exact HB.out | apply zC | apply zB | apply zF | refine zE ?_ GE131.out) | exact HB.out)))); have n3_ := zA (blk_below (g := gb131) (o := .cells #[.int .i64 a0_0, .int .i64 a0_1, .int .i64 a0_2, .int .i64 a0_3, .slice A0_4 l0_4.length c0_4] 26 (0, 0)) (by (with_reducible repeat (first | refine zG ?_ _ | refine zH ?_ | refine zD ?_ _)); exact BK131.out) hb); have n4_ := zA (below_step (by repeat (first | (with_reducible first | exact HB.out | apply zC | apply zB | apply zF | refine zE ?_ GE131.out) | exact HB.out)) hb); clear HO_5; clear HO_6; clear BK131; clear HB; have HO_5 := n0_; have HO_6 := n1_; have HO154 := n2_; have BK131 := n3_; have HB := n4_; clear n0_ n1_ n2_ n3_ n4_; clear hb ho40; obtain ⟨Ao42, co42, eo42⟩ := Kd.R_slice HO_6.out; subst eo42) | ((with_reducible refine gate_builtin (b := .append) (xs := #[.tmp 57, .tmp 58]) rfl ?_); at_builtin; refine Kd.R_append_rows (Kd.int .i64) (w0 := w) w.heap.size rfl (.tmp 57) (.tmp 58) 36 3 (.int .i64 0) 8 rfl Try.underlying36 info3 rfl (by decide) (by omega) v153 y152 x6_2 _ _ _ (fun k_ => (w.heap.size ≤ k_) ∧ some k_ ≠ (.slice Ao42 x6_2.length co42 : Value).ownBlock) (fun _ => False) rfl rfl ?aO ?aR (fun _ _ h => h) (fun _ h => h.elim) ?aF ?aB ?aS ?aL ?_; (case aR => repeat (first | exact (yK HO_6.out).2.2 | (with_reducible refine yN ?_ _) | (with_reducible refine yL ?_ _) | (with_reducible refine yM ?_))); (case aB => exact (by repeat (first | (with_reducible first | exact HB.out | apply zC | apply zB | apply zF | refine zE ?_ GE131.out) | exact HB.out))); (case aF => exact (fun k_ hk => ⟨(Nat.le_trans (zL (by repeat (first | (with_reducible first | exact HB.out | apply zC | apply zB | apply zF | refine zE ?_ GE131.out) | exact HB.out))) hk), Kd.fresh' (Kd.R_lt (by (with_reducible repeat (first | apply zN | apply zM | apply zO)); exact HO_6.out)) k_ hk⟩)); (case aO => exact (by (with_reducible repeat (first | apply zN | apply zM | apply zO)); exact zP HO154.out (fun _ hk => ⟨hk.1.1, hk.2⟩))); (case aS => exact (zL (by repeat (first | (with_reducible first | exact HB.out | apply zC | apply zB | apply zF | refine zE ?_ GE131.out) | exact HB.out)))); (case aL => have := LMc36.out; omega); intro v156 w41 ho hb hg hat; rw [← Ny155.out] at ho; have n0_ := zA (Kd.N_afterv (ok := (fun k_ => (w.heap.size ≤ k_) ∧ some k_ ≠ (.slice Ao42 x6_2.length co42 : Value).ownBlock ∧ k_ ≠ gb131)) (by (with_reducible repeat (first | apply Kd.N_alloc | apply Kd.N_drewN | apply Kd.N_drew)); exact HO_5.out) hg hat); have n1_ := zA (Kd.R_after (ok := (fun k_ => (w.heap.size ≤ k_))) (by (with_reducible repeat (first | apply zN | apply zM | apply zO)); exact HO_6.out) hg hat); have n2_ := zA (blk_grown (g := gb131) (o := .cells #[.int .i64 a0_0, .int .i64 a0_1, .int .i64 a0_2, .int .i64 a0_3, .slice A0_4 l0_4.length c0_4] 26 (0, 0)) (by (with_reducible repeat (first | refine zG ?_ _ | refine zH ?_ | refine zD ?_ _)); exact BK131.out) hg (Kd.R_ne HO154.out BK131.out (by decide))); have n3_ := zA (hb); have n4_ := zA (ho); clear HO_5; clear HO_6; clear BK131; clear HB; clear HO154; have HO_5 := n0_; have HO_6 := n1_; have BK131 := n2_; have HB := n3_; have HO157 := n4_; clear n0_ n1_ n2_ n3_ n4_; clear ho hb hg hat; obtain ⟨Ao43, co43, eo43⟩ := Kd.R_slice HO157.out; subst eo43) | ((with_reducible refine gate_builtin (b := .append) (xs := #[.tmp 56, .tmp 61]) rfl ?_); at_builtin; refine Kd.N_append k38 (w0 := w) w.heap.size rfl (.tmp 56) (.tmp 61) 27 38 (.agg #[(.slice none 0 0), (.int .i64 0), (.int .i64 0), (.int .i64 0), (.int .i64 0)]) 56 rfl Try.underlying27 info38 rfl (by decide) (by omega) v133 y132 (⟨y155, 0, 0, 0, 1⟩ : S38) [.slice Ao43 y155.length co43, .int .i64 0, .int .i64 0, .int .i64 0, .int .i64 1] (fun k_ => (w.heap.size ≤ k_) ∧ some k_ ≠ (.slice Ao42 x6_2.length co42 : Value).ownBlock ∧ k_ ≠ gb131) (fun k_ => ((fun k_ => (w.heap.size ≤ k_) ∧ some k_ ≠ (.slice Ao42 x6_2.length co42 : Value).ownBlock ∧ k_ ≠ gb131)) k_ ∧ some k_ ≠ (v133 : Value).ownBlock) rfl rfl ?aP (fun _ hk => hk) ?aF ?aO ?aB ?aS ?aL ?_; (case aP => exact (k38_mkF _ _ (⟨y155, 0, 0, 0, 1⟩ : S38) (yK (zP (ok' := (fun k_ => ((fun k_ => (w.heap.size ≤ k_) ∧ some k_ ≠ (.slice Ao42 x6_2.length co42 : Value).ownBlock ∧ k_ ≠ gb131)) k_ ∧ some k_ ≠ (v133 : Value).ownBlock)) (zY (Kd.R_apart' (HO157.out) (Kd.N_typed HO_5.out) (by decide)) BK131.out (by decide)) (fun k_ hk => ⟨⟨hk.1.1.1, ⟨hk.1.1.2, hk.2⟩⟩, hk.1.2⟩))).2.1 (Kd.R_F (zP (ok' := (fun k_ => ((fun k_ => (w.heap.size ≤ k_) ∧ some k_ ≠ (.slice Ao42 x6_2.length co42 : Value).ownBlock ∧ k_ ≠ gb131)) k_ ∧ some k_ ≠ (v133 : Value).ownBlock)) (zY (Kd.R_apart' (HO157.out) (Kd.N_typed HO_5.out) (by decide)) BK131.out (by decide)) (fun k_ hk => ⟨⟨hk.1.1.1, ⟨hk.1.1.2, hk.2⟩⟩, hk.1.2⟩))))); (case aB => exact (by repeat (first | (with_reducible first | exact HB.out | apply zC | apply zB | apply zF | refine zE ?_ GE131.out) | exact HB.out))); (case aF => exact (fun k_ hk => ⟨(Nat.le_trans (zL (by repeat (first | (with_reducible first | exact HB.out | apply zC | apply zB | apply zF | refine zE ?_ GE131.out) | exact HB.out))) hk), Kd.fresh' (Kd.R_lt (by (with_reducible repeat (first | apply zN | apply zM | apply zO)); exact HO_6.out)) k_ hk, Kd.freshB (g := gb131) (o := .cells #[.int .i64 a0_0, .int .i64 a0_1, .int .i64 a0_2, .int .i64 a0_3, .slice A0_4 l0_4.length c0_4] 26 (0, 0)) (by (with_reducible repeat (first | refine zG ?_ _ | refine zH ?_ | refine zD ?_ _)); exact BK131.out) k_ hk⟩)); (case aO => exact (by (with_reducible repeat (first | apply Kd.N_alloc | apply Kd.N_drewN | apply Kd.N_drew)); exact Kd.N_mono HO_5.out (fun _ hk => ⟨hk.1.1, ⟨hk.1.2.1, hk.1.2.2⟩⟩))); (case aS => exact (zL (by repeat (first | (with_reducible first | exact HB.out | apply zC | apply zB | apply zF | refine zE ?_ GE131.out) | exact HB.out)))); (case aL => have := LMc37.out; omega); intro v159 w44 ho hb hg hat; rw [← Ny158.out] at ho; have n0_ := zA (Kd.R_over' (by (with_reducible repeat (first | apply zN | apply zM | apply zO)); exact HO_6.out) (Kd.N_typed (by (with_reducible repeat (first | apply Kd.N_alloc | apply Kd.N_drewN | apply Kd.N_drew)); exact HO_5.out)) (by decide) hg); have n1_ := zA (blk_grown (g := gb131) (o := .cells #[.int .i64 a0_0, .int .i64 a0_1, .int .i64 a0_2, .int .i64 a0_3, .slice A0_4 l0_4.length c0_4] 26 (0, 0)) (by (with_reducible repeat (first | refine zG ?_ _ | refine zH ?_ | refine zD ?_ _)); exact BK131.out) hg (Kd.N_ne HO_5.out BK131.out (by decide))); have n2_ := zA (hb); have n3_ := zA (ho); clear HO_6; clear BK131; clear HB; clear HO_5; clear HO157; have HO_6 := n0_; have BK131 := n1_; have HB := n2_; have HO160 := n3_; clear n0_ n1_ n2_ n3_; clear ho hb hg hat))
           go_loopg [5, 9] k2 (fun kq v5 v9 w' => ∃ (x5_3 : List (S38)) (x9_3 : Int), v9 = .int .i64 x9_3 ∧ Aside0 (spec_ScriptFor.l2 kq x5_3 x6_2 x9_3 = some r) ∧ Aside0 (kq ≤ k2) ∧ Aside0 (Kd.N k38 38 w' w.heap.size (fun k_ => (w.heap.size ≤ k_) ∧ some k_ ≠ ((.slice Ao42 x6_2.length co42) : Value).ownBlock ∧ k_ ≠ gb131) v5 x5_3) ∧ Aside0 (Kd.R (Kd.int .i64) 3 w' w.heap.size (fun k_ => (w.heap.size ≤ k_)) (.slice Ao42 x6_2.length co42) x6_2) ∧ Aside0 (w'.heap[gb131]? = some (.cells #[.int .i64 a0_0, .int .i64 a0_1, .int .i64 a0_2, .int .i64 a0_3, (.slice A0_4 l0_4.length c0_4)] 26 (0, 0))) ∧ Aside0 (Below w.heap.size w w'))
           case atStart => exact ⟨(y158), (0), (by first | rfl | (simp; done) | (simp [*]; done)), H', ⟨Nat.le_refl _⟩, ⟨by (with_reducible repeat (first | apply Kd.N_alloc | apply Kd.N_drewN | apply Kd.N_drew)); exact HO160.out⟩, ⟨by (with_reducible repeat (first | apply zN | apply zM | apply zO)); exact zP HO_6.out (fun _ hk => hk.1)⟩, ⟨by (with_reducible repeat (first | refine zG ?_ _ | refine zH ?_ | refine zD ?_ _)); exact BK131.out⟩, ⟨by repeat (first | (with_reducible first | exact HB.out | apply zC | apply zB | apply zF | refine zE ?_ GE131.out) | exact HB.out)⟩⟩
           case round =>
            clear H'
            try clear c1
            try clear c2
            try clear p2
            try clear c3
            try clear p6
            try clear c8
            try clear c11
            try clear c12
            try clear c14
            try clear c17
            try clear c17b0
            try clear c18
            try clear c21
            try clear c21b0
            try clear c21b1
            try clear c22
            try clear c26
            try clear c26b0
            try clear c26b1
            try clear c28
            try clear c28b0
            try clear c29
            try clear c36
            try clear c37
            try clear hcz10_0
            try clear hcz10_1
            try clear hcz10_2
            try clear hcz10_3
            try clear hcz10_4
            try clear hcz12_0
            try clear hcz12_1
            try clear hcz12_2
            try clear hcz12_3
            try clear hcz12_4
            try clear hcz19_0
            try clear hcz19_1
            try clear hcz19_2
            try clear hcz19_3
            try clear hcz19_4
            try clear hcz23_0
            try clear hcz23_1
            try clear hcz23_2
            try clear hcz23_3
            try clear hcz23_4
            try clear hcz27_0
            try clear hcz27_1
            try clear hcz27_2
            try clear hcz27_3
            try clear hcz27_4
            try clear hcz38_0
            try clear hcz38_1
            try clear hcz38_2
            try clear hcz38_3
            try clear hcz38_4
            try clear hfz10_0
            try clear hfz10_1
            try clear hfz10_2
            try clear hfz10_3
            try clear hfz10_4
            try clear hfz12_0
            try clear hfz12_1
            try clear hfz12_2
            try clear hfz12_3
            try clear hfz12_4
            try clear hfz19_0
            try clear hfz19_1
            try clear hfz19_2
            try clear hfz19_3
            try clear hfz19_4
            try clear hfz23_0
            try clear hfz23_1
            try clear hfz23_2
            try clear hfz23_3
            try clear hfz23_4
            try clear hfz27_0
            try clear hfz27_1
            try clear hfz27_2
            try clear hfz27_3
            try clear hfz27_4
            try clear hfz38_0
            try clear hfz38_1
            try clear hfz38_2
            try clear hfz38_3
            try clear hfz38_4
            try clear p2
            try clear p6
            obtain ⟨x5_3, x9_3, rfl, HA, HK3, HO_5, HO_6, BK131, HB⟩ := hrel
            cases gk with
            | zero => exact absurd HA.out (by simp [spec_ScriptFor.l2])
            | succ k3 =>
             have H := HA.out
             clear HA
             simp only [spec_ScriptFor.l2] at H
             by_cases c45 : x9_3 < (x6_2.length : Int)
             ·rw [if_pos c45] at H
              have c45b0 : decide (x9_3 < (x6_2.length : Int)) = true := zT c45
              clear c45
              obtain ⟨y161, hy161⟩ : ∃ y_ : List Int, y_ = (([x9_3] : List Int)) := ⟨_, rfl⟩
              replace H : ((some (([(⟨y161, 1, 5, 0, 2⟩ : S38), (⟨(([x9_3] : List Int)), 6, 63, 0, 2⟩ : S38)] : List (S38)) : List (S38))).bind fun y167 => (if x5_3.length + y167.length < 2513169434916 then (spec_ScriptFor.l2 k3 (x5_3 ++ y167) x6_2 (wrap64 (x9_3 + 1))) else (none))) = some r := by first | (rw [hy161]; with_reducible exact H) | (have H2_ := (zS _ _).symm.trans H; rw [hy161]; with_reducible exact H2_) | (have H2_ := (zS _ _).symm.trans H; with_reducible exact H2_) | with_reducible exact H | (rw [hy161]; exact H) | exact H
              have Ny161 := zA hy161
              clear hy161
              obtain ⟨y164, hy164⟩ : ∃ y_ : List Int, y_ = (([x9_3] : List Int)) := ⟨_, rfl⟩
              replace H : ((some (([(⟨y161, 1, 5, 0, 2⟩ : S38), (⟨y164, 6, 63, 0, 2⟩ : S38)] : List (S38)) : List (S38))).bind fun y167 => (if x5_3.length + y167.length < 2513169434916 then (spec_ScriptFor.l2 k3 (x5_3 ++ y167) x6_2 (wrap64 (x9_3 + 1))) else (none))) = some r := by first | (rw [hy164]; with_reducible exact H) | (have H2_ := (zS _ _).symm.trans H; rw [hy164]; with_reducible exact H2_) | (have H2_ := (zS _ _).symm.trans H; with_reducible exact H2_) | with_reducible exact H | (rw [hy164]; exact H) | exact H
              have Ny164 := zA hy164
              clear hy164
              obtain ⟨y167, hy167⟩ : ∃ y_ : List (S38), y_ = (([(⟨y161, 1, 5, 0, 2⟩ : S38), (⟨y164, 6, 63, 0, 2⟩ : S38)] : List (S38))) := ⟨_, rfl⟩
              replace H : (if x5_3.length + y167.length < 2513169434916 then (spec_ScriptFor.l2 k3 (x5_3 ++ y167) x6_2 (wrap64 (x9_3 + 1))) else (none)) = some r := by first | (rw [hy167]; with_reducible exact H) | (have H2_ := (zS _ _).symm.trans H; rw [hy167]; with_reducible exact H2_) | (have H2_ := (zS _ _).symm.trans H; with_reducible exact H2_) | with_reducible exact H | (rw [hy167]; exact H) | exact H
              have Ny167 := zA hy167
              clear hy167
              by_cases c46 : x5_3.length + y167.length < 2513169434916
              ·rw [if_pos c46] at H
               have LMc46 := zA c46
               clear c46
               obtain ⟨y170, hy170⟩ : ∃ y_ : List (S38), y_ = (x5_3 ++ y167) := ⟨_, rfl⟩
               replace H : (spec_ScriptFor.l2 k3 y170 x6_2 (wrap64 (x9_3 + 1))) = some r := by first | (rw [hy170]; with_reducible exact H) | (have H2_ := (zS _ _).symm.trans H; rw [hy170]; with_reducible exact H2_) | (have H2_ := (zS _ _).symm.trans H; with_reducible exact H2_) | with_reducible exact H | (rw [hy170]; exact H) | exact H
               have Ny170 := zA hy170
               clear hy170
               have H' := zA H
               clear H
               go_wp2_with (first | ((with_reducible refine gate_dst (N := 71) rfl ?_); refine Kd.R_lit (Kd.int .i64) _ 3 ?hg (N := 71) ?hd (xs := ([x9_3] : List Int)) (inner := [.int .i64 x9_3]) (ok := fun _ => True) (okp := fun _ => True) ?hr ?hp (fun _ hk => hk) trivial (Below.refl _ _) (Nat.le_refl _) (by simp) ?_; (case hd => rfl); (case hg => rfl); (case hr => first | (go_simp; done) | (go_simp; rfl)); (case hp => exact (Reps.one (show Kd.M (Kd.int .i64) _ _ _ x9_3 [.int .i64 x9_3] from rfl) (Reps.none _ _))); intro v162 w47 ho48 hb hg_ hnew_; clear hg_ hnew_; (first | rw [← Ny161.out] at ho48 | (simp only [Int.reduceToNat] at ho48; rw [← Ny161.out] at ho48)); have n0_ := zA (Kd.N_elder' (by (with_reducible repeat (first | apply Kd.N_alloc | apply Kd.N_drewN | apply Kd.N_drew)); exact HO_5.out) (Kd.R_base ho48) hb); have n1_ := zA (Kd.R_elder' (by (with_reducible repeat (first | apply zN | apply zM | apply zO)); exact HO_6.out) (Kd.R_base ho48) hb); have n2_ := zA (Kd.R_lower (Kd.R_new' (Kd.R_newM (M := fun k_ => (w.heap.size ≤ k_)) ho48 (zL (by repeat (first | (with_reducible first | exact HB.out | apply zC | apply zB | apply zF | refine zE ?_ GE131.out) | exact HB.out))) (fun k_ h_ => h_)) (Kd.R_lt (by (with_reducible repeat (first | apply zN | apply zM | apply zO)); exact HO_6.out))) (zL (by repeat (first | (with_reducible first | exact HB.out | apply zC | apply zB | apply zF | refine zE ?_ GE131.out) | exact HB.out)))); have n3_ := zA (blk_below (g := gb131) (o := .cells #[.int .i64 a0_0, .int .i64 a0_1, .int .i64 a0_2, .int .i64 a0_3, .slice A0_4 l0_4.length c0_4] 26 (0, 0)) (by (with_reducible repeat (first | refine zG ?_ _ | refine zH ?_ | refine zD ?_ _)); exact BK131.out) hb); have n4_ := zA (below_step (by repeat (first | (with_reducible first | exact HB.out | apply zC | apply zB | apply zF | refine zE ?_ GE131.out) | exact HB.out)) hb); clear HO_5; clear HO_6; clear BK131; clear HB; have HO_5 := n0_; have HO_6 := n1_; have HO163 := n2_; have BK131 := n3_; have HB := n4_; clear n0_ n1_ n2_ n3_ n4_; clear hb ho48; obtain ⟨Ao49, co49, eo49⟩ := Kd.R_slice HO163.out; subst eo49) | ((with_reducible refine gate_dst (N := 74) rfl ?_); refine Kd.R_lit (Kd.int .i64) _ 3 ?hg (N := 74) ?hd (xs := ([x9_3] : List Int)) (inner := [.int .i64 x9_3]) (ok := fun _ => True) (okp := fun _ => True) ?hr ?hp (fun _ hk => hk) trivial (Below.refl _ _) (Nat.le_refl _) (by simp) ?_; (case hd => rfl); (case hg => rfl); (case hr => first | (go_simp; done) | (go_simp; rfl)); (case hp => exact (Reps.one (show Kd.M (Kd.int .i64) _ _ _ x9_3 [.int .i64 x9_3] from rfl) (Reps.none _ _))); intro v165 w50 ho51 hb hg_ hnew_; clear hg_ hnew_; (first | rw [← Ny164.out] at ho51 | (simp only [Int.reduceToNat] at ho51; rw [← Ny164.out] at ho51)); have n0_ := zA (Kd.N_elder' (by (with_reducible repeat (first | apply Kd.N_alloc | apply Kd.N_drewN | apply Kd.N_drew)); exact HO_5.out) (Kd.R_base ho51) hb); have n1_ := zA (Kd.R_elder' (by (with_reducible repeat (first | apply zN | apply zM | apply zO)); exact HO_6.out) (Kd.R_base ho51) hb); have n2_ := zA (Kd.R_elder' (by (with_reducible repeat (first | apply zN | apply zM | apply zO)); exact HO163.out) (Kd.R_base ho51) hb); have n3_ := zA (Kd.R_lower (Kd.R_new' (Kd.R_new' (Kd.R_newM (M := fun k_ => (w.heap.size ≤ k_)) ho51 (zL (by repeat (first | (with_reducible first | exact HB.out | apply zC | apply zB | apply zF | refine zE ?_ GE131.out) | exact HB.out))) (fun k_ h_ => h_)) (Kd.R_lt (by (with_reducible repeat (first | apply zN | apply zM | apply zO)); exact HO_6.out))) (Kd.R_lt (by (with_reducible repeat (first | apply zN | apply zM | apply zO)); exact HO163.out))) (zL (by repeat (first | (with_reducible first | exact HB.out | apply zC | apply zB | apply zF | refine zE ?_ GE131.out) | exact HB.out)))); have n4_ := zA (blk_below (g := gb131) (o := .cells #[.int .i64 a0_0, .int .i64 a0_1, .int .i64 a0_2, .int .i64 a0_3, .slice A0_4 l0_4.length c0_4] 26 (0, 0)) (by (with_reducible repeat (first | refine zG ?_ _ | refine zH ?_ | refine zD ?_ _)); exact BK131.out) hb); have n5_ := zA (below_step (by repeat (first | (with_reducible first | exact HB.out | apply zC | apply zB | apply zF | refine zE ?_ GE131.out) | exact HB.out)) hb); clear HO_5; clear HO_6; clear HO163; clear BK131; clear HB; have HO_5 := n0_; have HO_6 := n1_; have HO163 := n2_; have HO166 := n3_; have BK131 := n4_; have HB := n5_; clear n0_ n1_ n2_ n3_ n4_ n5_; clear hb ho51; obtain ⟨Ao52, co52, eo52⟩ := Kd.R_slice HO166.out; subst eo52) | ((with_reducible refine gate_dst (N := 76) rfl ?_); refine Kd.N_lit k38 _ 38 ?hg (N' := 76) ?hd (xs := ([(⟨y161, 1, 5, 0, 2⟩ : S38), (⟨y164, 6, 63, 0, 2⟩ : S38)] : List (S38))) (inner := [.slice Ao49 y161.length co49, .int .i64 1, .int .i64 5, .int .i64 0, .int .i64 2, .slice Ao52 y164.length co52, .int .i64 6, .int .i64 63, .int .i64 0, .int .i64 2]) (ok := (fun k_ => (w.heap.size ≤ k_) ∧ some k_ ≠ (u5 : Value).ownBlock ∧ some k_ ≠ (.slice Ao42 x6_2.length co42 : Value).ownBlock ∧ k_ ≠ gb131)) (okp := (fun k_ => (w.heap.size ≤ k_) ∧ some k_ ≠ (u5 : Value).ownBlock ∧ some k_ ≠ (.slice Ao42 x6_2.length co42 : Value).ownBlock ∧ k_ ≠ gb131)) ?hr ?hp (fun _ hk => hk) ((show ∀ k_, w50.heap.size ≤ k_ → (fun k_ => (w.heap.size ≤ k_) ∧ some k_ ≠ (u5 : Value).ownBlock ∧ some k_ ≠ (.slice Ao42 x6_2.length co42 : Value).ownBlock ∧ k_ ≠ gb131) k_ from fun k_ hk => ⟨(Nat.le_trans (zL (by repeat (first | (with_reducible first | exact HB.out | apply zC | apply zB | apply zF | refine zE ?_ GE131.out) | exact HB.out))) hk), Kd.fresh' (Kd.N_lt (by (with_reducible repeat (first | apply Kd.N_alloc | apply Kd.N_drewN | apply Kd.N_drew)); exact HO_5.out)) k_ hk, Kd.fresh' (Kd.R_lt (by (with_reducible repeat (first | apply zN | apply zM | apply zO)); exact HO_6.out)) k_ hk, Kd.freshB (g := gb131) (o := .cells #[.int .i64 a0_0, .int .i64 a0_1, .int .i64 a0_2, .int .i64 a0_3, .slice A0_4 l0_4.length c0_4] 26 (0, 0)) (by (with_reducible repeat (first | refine zG ?_ _ | refine zH ?_ | refine zD ?_ _)); exact BK131.out) k_ hk⟩) _ (Nat.le_refl _)) (Below.refl _ _) (Nat.le_refl _) (by simp) ?_; (case hd => rfl); (case hg => rfl); (case hr => first | (go_simp; done) | (go_simp; rfl)); (case hp => exact (Reps.c5 (show Kd.FK k38 _ _ (⟨y161, 1, 5, 0, 2⟩ : S38) [.slice Ao49 y161.length co49, .int .i64 1, .int .i64 5, .int .i64 0, .int .i64 2] from (k38_mkF _ _ (⟨y161, 1, 5, 0, 2⟩ : S38) (yK (zP (ok' := (fun k_ => (w.heap.size ≤ k_) ∧ some k_ ≠ (u5 : Value).ownBlock ∧ some k_ ≠ (.slice Ao42 x6_2.length co42 : Value).ownBlock ∧ k_ ≠ gb131)) (zY (Kd.R_apart' (HO163.out) (Kd.N_typed HO_5.out) (by decide)) BK131.out (by decide)) (fun k_ hk => ⟨hk.1.1.1.1.1, ⟨hk.1.2, ⟨hk.1.1.1.2, hk.2⟩⟩⟩))).2.1 (Kd.R_F (zP (ok' := (fun k_ => (w.heap.size ≤ k_) ∧ some k_ ≠ (u5 : Value).ownBlock ∧ some k_ ≠ (.slice Ao42 x6_2.length co42 : Value).ownBlock ∧ k_ ≠ gb131)) (zY (Kd.R_apart' (HO163.out) (Kd.N_typed HO_5.out) (by decide)) BK131.out (by decide)) (fun k_ hk => ⟨hk.1.1.1.1.1, ⟨hk.1.2, ⟨hk.1.1.1.2, hk.2⟩⟩⟩))))) (Reps.c5 (show Kd.FK k38 _ _ (⟨y164, 6, 63, 0, 2⟩ : S38) [.slice Ao52 y164.length co52, .int .i64 6, .int .i64 63, .int .i64 0, .int .i64 2] from (k38_mkF _ _ (⟨y164, 6, 63, 0, 2⟩ : S38) (yK (zP (ok' := (fun k_ => (w.heap.size ≤ k_) ∧ some k_ ≠ (u5 : Value).ownBlock ∧ some k_ ≠ (.slice Ao42 x6_2.length co42 : Value).ownBlock ∧ k_ ≠ gb131)) (zY (Kd.R_apart' (HO166.out) (Kd.N_typed HO_5.out) (by decide)) BK131.out (by decide)) (fun k_ hk => ⟨hk.1.1.1.1.1, ⟨hk.1.2, ⟨hk.1.1.1.2, hk.2⟩⟩⟩))).2.1 (Kd.R_F (zP (ok' := (fun k_ => (w.heap.size ≤ k_) ∧ some k_ ≠ (u5 : Value).ownBlock ∧ some k_ ≠ (.slice Ao42 x6_2.length co42 : Value).ownBlock ∧ k_ ≠ gb131)) (zY (Kd.R_apart' (HO166.out) (Kd.N_typed HO_5.out) (by decide)) BK131.out (by decide)) (fun k_ hk => ⟨hk.1.1.1.1.1, ⟨hk.1.2, ⟨hk.1.1.1.2, hk.2⟩⟩⟩))))) (Reps.none _ _)))); intro v168 w53 ho54 hb hg_ hnew_; clear hg_ hnew_; (first | rw [← Ny167.out] at ho54 | (simp only [Int.reduceToNat] at ho54; rw [← Ny167.out] at ho54)); have n0_ := zA (Kd.N_elder' (by (with_reducible repeat (first | apply Kd.N_alloc | apply Kd.N_drewN | apply Kd.N_drew)); exact HO_5.out) (Kd.N_base ho54) hb); have n1_ := zA (Kd.R_below (by (with_reducible repeat (first | apply zN | apply zM | apply zO)); exact HO_6.out) hb); have n2_ := zA (Kd.N_lower ho54 (zL (by repeat (first | (with_reducible first | exact HB.out | apply zC | apply zB | apply zF | refine zE ?_ GE131.out) | exact HB.out)))); have n3_ := zA (blk_below (g := gb131) (o := .cells #[.int .i64 a0_0, .int .i64 a0_1, .int .i64 a0_2, .int .i64 a0_3, .slice A0_4 l0_4.length c0_4] 26 (0, 0)) (by (with_reducible repeat (first | refine zG ?_ _ | refine zH ?_ | refine zD ?_ _)); exact BK131.out) hb); have n4_ := zA (below_step (by repeat (first | (with_reducible first | exact HB.out | apply zC | apply zB | apply zF | refine zE ?_ GE131.out) | exact HB.out)) hb); clear HO_5; clear HO_6; clear BK131; clear HB; clear HO163; clear HO166; have HO_5 := n0_; have HO_6 := n1_; have HO169 := n2_; have BK131 := n3_; have HB := n4_; clear n0_ n1_ n2_ n3_ n4_; clear hb ho54; obtain ⟨Ao56, co56, eo56⟩ := Kd.N_slice HO169.out; subst eo56) | ((with_reducible refine gate_builtin (b := .append) (xs := #[.tmp 69, .tmp 76]) rfl ?_); at_builtin; refine Kd.N_append_rows k38 (w0 := w) w.heap.size rfl (.tmp 69) (.tmp 76) 27 38 (.agg #[(.slice none 0 0), (.int .i64 0), (.int .i64 0), (.int .i64 0), (.int .i64 0)]) 56 rfl Try.underlying27 info38 rfl (by decide) (by omega) u5 x5_3 y167 _ _ _ (fun k_ => (w.heap.size ≤ k_) ∧ some k_ ≠ (.slice Ao42 x6_2.length co42 : Value).ownBlock ∧ k_ ≠ gb131) (fun k_ => ((fun k_ => (w.heap.size ≤ k_) ∧ some k_ ≠ (.slice Ao42 x6_2.length co42 : Value).ownBlock ∧ k_ ≠ gb131)) k_ ∧ some k_ ≠ (u5 : Value).ownBlock) rfl rfl ?aO ?aR (fun _ hk => hk) ?aF ?aB ?aS ?aL ?_; (case aR => exact (by skip; exact Kd.N_F (Kd.N_mono (ok' := (fun k_ => ((fun k_ => (w.heap.size ≤ k_) ∧ some k_ ≠ (.slice Ao42 x6_2.length co42 : Value).ownBlock ∧ k_ ≠ gb131)) k_ ∧ some k_ ≠ (u5 : Value).ownBlock)) (HO169.out) (fun k_ hk => ⟨⟨hk.1, ⟨hk.2.2.1, hk.2.2.2⟩⟩, hk.2.1⟩)))); (case aB => exact (by repeat (first | (with_reducible first | exact HB.out | apply zC | apply zB | apply zF | refine zE ?_ GE131.out) | exact HB.out))); (case aF => exact (fun k_ hk => ⟨(Nat.le_trans (zL (by repeat (first | (with_reducible first | exact HB.out | apply zC | apply zB | apply zF | refine zE ?_ GE131.out) | exact HB.out))) hk), Kd.fresh' (Kd.R_lt (by (with_reducible repeat (first | apply zN | apply zM | apply zO)); exact HO_6.out)) k_ hk, Kd.freshB (g := gb131) (o := .cells #[.int .i64 a0_0, .int .i64 a0_1, .int .i64 a0_2, .int .i64 a0_3, .slice A0_4 l0_4.length c0_4] 26 (0, 0)) (by (with_reducible repeat (first | refine zG ?_ _ | refine zH ?_ | refine zD ?_ _)); exact BK131.out) k_ hk⟩)); (case aO => exact (by (with_reducible repeat (first | apply Kd.N_alloc | apply Kd.N_drewN | apply Kd.N_drew)); exact Kd.N_mono HO_5.out (fun _ hk => ⟨hk.1.1.1.1, ⟨hk.1.1.1.2.1, hk.1.1.1.2.2⟩⟩))); (case aS => exact (zL (by repeat (first | (with_reducible first | exact HB.out | apply zC | apply zB | apply zF | refine zE ?_ GE131.out) | exact HB.out)))); (case aL => have := LMc46.out; omega); intro v171 w55 ho hb hg hat; rw [← Ny170.out] at ho; have n0_ := zA (Kd.R_over' (by (with_reducible repeat (first | apply zN | apply zM | apply zO)); exact HO_6.out) (Kd.N_typed (by (with_reducible repeat (first | apply Kd.N_alloc | apply Kd.N_drewN | apply Kd.N_drew)); exact HO_5.out)) (by decide) hg); have n1_ := zA (blk_grown (g := gb131) (o := .cells #[.int .i64 a0_0, .int .i64 a0_1, .int .i64 a0_2, .int .i64 a0_3, .slice A0_4 l0_4.length c0_4] 26 (0, 0)) (by (with_reducible repeat (first | refine zG ?_ _ | refine zH ?_ | refine zD ?_ _)); exact BK131.out) hg (Kd.N_ne HO_5.out BK131.out (by decide))); have n2_ := zA (Kd.N_afterv (ok := (fun k_ => (w.heap.size ≤ k_) ∧ some k_ ≠ (.slice Ao42 x6_2.length co42 : Value).ownBlock ∧ k_ ≠ gb131)) (by (with_reducible repeat (first | apply Kd.N_alloc | apply Kd.N_drewN | apply Kd.N_drew)); exact Kd.N_mono HO169.out (fun _ hk => ⟨⟨hk.1, ⟨hk.2.2.1, hk.2.2.2⟩⟩, hk.2.1⟩)) hg hat); have n3_ := zA (hb); have n4_ := zA (ho); clear HO_6; clear BK131; clear HO169; clear HB; clear HO_5; have HO_6 := n0_; have BK131 := n1_; have HO169 := n2_; have HB := n3_; have HO172 := n4_; clear n0_ n1_ n2_ n3_ n4_; clear ho hb hg hat))
               go_roundg k3
               case measure => have := HJ2.out; have := HK2.out; have := HK3.out; omega
               case rel => exact ⟨(y170), (wrap64 (x9_3 + 1)), (by first | rfl | (simp; done) | (simp [*]; done)), H', ⟨by have := HJ2.out; have := HK2.out; have := HK3.out; omega⟩, ⟨by (with_reducible repeat (first | apply Kd.N_alloc | apply Kd.N_drewN | apply Kd.N_drew)); exact HO172.out⟩, ⟨by (with_reducible repeat (first | apply zN | apply zM | apply zO)); exact zP HO_6.out (fun _ hk => hk.1.1)⟩, ⟨by (with_reducible repeat (first | refine zG ?_ _ | refine zH ?_ | refine zD ?_ _)); exact BK131.out⟩, ⟨by repeat (first | (with_reducible first | exact HB.out | apply zC | apply zB | apply zF | refine zE ?_ GE131.out) | exact HB.out)⟩⟩
              ·rw [if_neg c46] at H
               exact absurd H (by simp)
             ·rw [if_neg c45] at H
              have c45b0 : decide (x9_3 < (x6_2.length : Int)) = false := decide_eq_false c45
              clear c45
              have H' := zA H
              clear H
              go_wp2
              go_loopg [5, 10] k3 (fun kq v5 v10 w' => ∃ (x5_4 : List (S38)) (x10_4 : Int), v10 = .int .i64 x10_4 ∧ Aside0 (spec_ScriptFor.l3 kq x5_4 x6_2 x10_4 = some r) ∧ Aside0 (kq ≤ k3) ∧ Aside0 (Kd.N k38 38 w' w.heap.size (fun k_ => (w.heap.size ≤ k_) ∧ some k_ ≠ ((.slice Ao42 x6_2.length co42) : Value).ownBlock ∧ k_ ≠ gb131) v5 x5_4) ∧ Aside0 (Kd.R (Kd.int .i64) 3 w' w.heap.size (fun k_ => (w.heap.size ≤ k_)) (.slice Ao42 x6_2.length co42) x6_2) ∧ Aside0 (w'.heap[gb131]? = some (.cells #[.int .i64 a0_0, .int .i64 a0_1, .int .i64 a0_2, .int .i64 a0_3, (.slice A0_4 l0_4.length c0_4)] 26 (0, 0))) ∧ Aside0 (Below w.heap.size w w'))
              case atStart => exact ⟨(x5_3), (0), (by first | rfl | (simp; done) | (simp [*]; done)), H', ⟨Nat.le_refl _⟩, ⟨by (with_reducible repeat (first | apply Kd.N_alloc | apply Kd.N_drewN | apply Kd.N_drew)); exact HO_5.out⟩, ⟨by (with_reducible repeat (first | apply zN | apply zM | apply zO)); exact HO_6.out⟩, ⟨by (with_reducible repeat (first | refine zG ?_ _ | refine zH ?_ | refine zD ?_ _)); exact BK131.out⟩, ⟨by repeat (first | (with_reducible first | exact HB.out | apply zC | apply zB | apply zF | refine zE ?_ GE131.out) | exact HB.out)⟩⟩
              case round =>
               clear H'
               try clear c1
               try clear c2
               try clear p2
               try clear c3
               try clear c4
               try clear c5
               try clear p6
               try clear c8
               try clear c11
               try clear c12
               try clear c14
               try clear c17
               try clear c17b0
               try clear c18
               try clear c21
               try clear c21b0
               try clear c21b1
               try clear c22
               try clear c26
               try clear c26b0
               try clear c26b1
               try clear c28
               try clear c28b0
               try clear c29
               try clear c36
               try clear c37
               try clear c45
               try clear c45b0
               try clear c46
               try clear hcz10_0
               try clear hcz10_1
               try clear hcz10_2
               try clear hcz10_3
               try clear hcz10_4
               try clear hcz12_0
               try clear hcz12_1
               try clear hcz12_2
               try clear hcz12_3
               try clear hcz12_4
               try clear hcz19_0
               try clear hcz19_1
               try clear hcz19_2
               try clear hcz19_3
               try clear hcz19_4
               try clear hcz23_0
               try clear hcz23_1
               try clear hcz23_2
               try clear hcz23_3
               try clear hcz23_4
               try clear hcz27_0
               try clear hcz27_1
               try clear hcz27_2
               try clear hcz27_3
               try clear hcz27_4
               try clear hcz38_0
               try clear hcz38_1
               try clear hcz38_2
               try clear hcz38_3
               try clear hcz38_4
               try clear hfz10_0
               try clear hfz10_1
               try clear hfz10_2
               try clear hfz10_3
               try clear hfz10_4
               try clear hfz12_0
               try clear hfz12_1
               try clear hfz12_2
               try clear hfz12_3
               try clear hfz12_4
               try clear hfz19_0
               try clear hfz19_1
               try clear hfz19_2
               try clear hfz19_3
               try clear hfz19_4
               try clear hfz23_0
               try clear hfz23_1
               try clear hfz23_2
               try clear hfz23_3
               try clear hfz23_4
               try clear hfz27_0
               try clear hfz27_1
               try clear hfz27_2
               try clear hfz27_3
               try clear hfz27_4
               try clear hfz38_0
               try clear hfz38_1
               try clear hfz38_2
               try clear hfz38_3
               try clear hfz38_4
               try clear p2
               try clear p6
               obtain ⟨x5_4, x10_4, rfl, HA, HK4, HO_5, HO_6, BK131, HB⟩ := hrel
               cases gk with
               | zero => exact absurd HA.out (by simp [spec_ScriptFor.l3])
               | succ k4 =>
                have H := HA.out
                clear HA
                simp only [spec_ScriptFor.l3] at H
                by_cases c57 : x10_4 < (x6_2.length : Int)
                ·rw [if_pos c57] at H
                 have c57b0 : decide (x10_4 < (x6_2.length : Int)) = true := zT c57
                 clear c57
                 obtain ⟨y173, hy173⟩ : ∃ y_ : List Int, y_ = (([x10_4] : List Int)) := ⟨_, rfl⟩
                 replace H : (if x5_4.length < 2513169434916 then (spec_ScriptFor.l3 k4 (x5_4 ++ [(⟨y173, 1, 63, 2, 1⟩ : S38)]) x6_2 (wrap64 (x10_4 + 1))) else (none)) = some r := by first | (rw [hy173]; with_reducible exact H) | (have H2_ := (zS _ _).symm.trans H; rw [hy173]; with_reducible exact H2_) | (have H2_ := (zS _ _).symm.trans H; with_reducible exact H2_) | with_reducible exact H | (rw [hy173]; exact H) | exact H
                 have Ny173 := zA hy173
                 clear hy173
                 by_cases c58 : x5_4.length < 2513169434916
                 ·rw [if_pos c58] at H
                  have LMc58 := zA c58
                  clear c58
                  obtain ⟨y176, hy176⟩ : ∃ y_ : List (S38), y_ = (x5_4 ++ [(⟨y173, 1, 63, 2, 1⟩ : S38)]) := ⟨_, rfl⟩
                  replace H : (spec_ScriptFor.l3 k4 y176 x6_2 (wrap64 (x10_4 + 1))) = some r := by first | (rw [hy176]; with_reducible exact H) | (have H2_ := (zS _ _).symm.trans H; rw [hy176]; with_reducible exact H2_) | (have H2_ := (zS _ _).symm.trans H; with_reducible exact H2_) | with_reducible exact H | (rw [hy176]; exact H) | exact H
                  have Ny176 := zA hy176
                  clear hy176
                  have H' := zA H
                  clear H
                  go_wp2_with (first | ((with_reducible refine gate_dst (N := 86) rfl ?_); refine Kd.R_lit (Kd.int .i64) _ 3 ?hg (N := 86) ?hd (xs := ([x10_4] : List Int)) (inner := [.int .i64 x10_4]) (ok := fun _ => True) (okp := fun _ => True) ?hr ?hp (fun _ hk => hk) trivial (Below.refl _ _) (Nat.le_refl _) (by simp) ?_; (case hd => rfl); (case hg => rfl); (case hr => first | (go_simp; done) | (go_simp; rfl)); (case hp => exact (Reps.one (show Kd.M (Kd.int .i64) _ _ _ x10_4 [.int .i64 x10_4] from rfl) (Reps.none _ _))); intro v174 w59 ho60 hb hg_ hnew_; clear hg_ hnew_; (first | rw [← Ny173.out] at ho60 | (simp only [Int.reduceToNat] at ho60; rw [← Ny173.out] at ho60)); have n0_ := zA (Kd.N_elder' (by (with_reducible repeat (first | apply Kd.N_alloc | apply Kd.N_drewN | apply Kd.N_drew)); exact HO_5.out) (Kd.R_base ho60) hb); have n1_ := zA (Kd.R_elder' (by (with_reducible repeat (first | apply zN | apply zM | apply zO)); exact HO_6.out) (Kd.R_base ho60) hb); have n2_ := zA (Kd.R_lower (Kd.R_new' (Kd.R_newM (M := fun k_ => (w.heap.size ≤ k_)) ho60 (zL (by repeat (first | (with_reducible first | exact HB.out | apply zC | apply zB | apply zF | refine zE ?_ GE131.out) | exact HB.out))) (fun k_ h_ => h_)) (Kd.R_lt (by (with_reducible repeat (first | apply zN | apply zM | apply zO)); exact HO_6.out))) (zL (by repeat (first | (with_reducible first | exact HB.out | apply zC | apply zB | apply zF | refine zE ?_ GE131.out) | exact HB.out)))); have n3_ := zA (blk_below (g := gb131) (o := .cells #[.int .i64 a0_0, .int .i64 a0_1, .int .i64 a0_2, .int .i64 a0_3, .slice A0_4 l0_4.length c0_4] 26 (0, 0)) (by (with_reducible repeat (first | refine zG ?_ _ | refine zH ?_ | refine zD ?_ _)); exact BK131.out) hb); have n4_ := zA (below_step (by repeat (first | (with_reducible first | exact HB.out | apply zC | apply zB | apply zF | refine zE ?_ GE131.out) | exact HB.out)) hb); clear HO_5; clear HO_6; clear BK131; clear HB; have HO_5 := n0_; have HO_6 := n1_; have HO175 := n2_; have BK131 := n3_; have HB := n4_; clear n0_ n1_ n2_ n3_ n4_; clear hb ho60; obtain ⟨Ao61, co61, eo61⟩ := Kd.R_slice HO175.out; subst eo61) | ((with_reducible refine gate_builtin (b := .append) (xs := #[.tmp 84, .tmp 88]) rfl ?_); at_builtin; refine Kd.N_append k38 (w0 := w) w.heap.size rfl (.tmp 84) (.tmp 88) 27 38 (.agg #[(.slice none 0 0), (.int .i64 0), (.int .i64 0), (.int .i64 0), (.int .i64 0)]) 56 rfl Try.underlying27 info38 rfl (by decide) (by omega) u5 x5_4 (⟨y173, 1, 63, 2, 1⟩ : S38) [.slice Ao61 y173.length co61, .int .i64 1, .int .i64 63, .int .i64 2, .int .i64 1] (fun k_ => (w.heap.size ≤ k_) ∧ some k_ ≠ (.slice Ao42 x6_2.length co42 : Value).ownBlock ∧ k_ ≠ gb131) (fun k_ => ((fun k_ => (w.heap.size ≤ k_) ∧ some k_ ≠ (.slice Ao42 x6_2.length co42 : Value).ownBlock ∧ k_ ≠ gb131)) k_ ∧ some k_ ≠ (u5 : Value).ownBlock) rfl rfl ?aP (fun _ hk => hk) ?aF ?aO ?aB ?aS ?aL ?_; (case aP => exact (k38_mkF _ _ (⟨y173, 1, 63, 2, 1⟩ : S38) (yK (zP (ok' := (fun k_ => ((fun k_ => (w.heap.size ≤ k_) ∧ some k_ ≠ (.slice Ao42 x6_2.length co42 : Value).ownBlock ∧ k_ ≠ gb131)) k_ ∧ some k_ ≠ (u5 : Value).ownBlock)) (zY (Kd.R_apart' (HO175.out) (Kd.N_typed HO_5.out) (by decide)) BK131.out (by decide)) (fun k_ hk => ⟨⟨hk.1.1.1.1, ⟨hk.1.1.2, hk.2⟩⟩, hk.1.2⟩))).2.1 (Kd.R_F (zP (ok' := (fun k_ => ((fun k_ => (w.heap.size ≤ k_) ∧ some k_ ≠ (.slice Ao42 x6_2.length co42 : Value).ownBlock ∧ k_ ≠ gb131)) k_ ∧ some k_ ≠ (u5 : Value).ownBlock)) (zY (Kd.R_apart' (HO175.out) (Kd.N_typed HO_5.out) (by decide)) BK131.out (by decide)) (fun k_ hk => ⟨⟨hk.1.1.1.1, ⟨hk.1.1.2, hk.2⟩⟩, hk.1.2⟩))))); (case aB => exact (by repeat (first | (with_reducible first | exact HB.out | apply zC | apply zB | apply zF | refine zE ?_ GE131.out) | exact HB.out))); (case aF => exact (fun k_ hk => ⟨(Nat.le_trans (zL (by repeat (first | (with_reducible first | exact HB.out | apply zC | apply zB | apply zF | refine zE ?_ GE131.out) | exact HB.out))) hk), Kd.fresh' (Kd.R_lt (by (with_reducible repeat (first | apply zN | apply zM | apply zO)); exact HO_6.out)) k_ hk, Kd.freshB (g := gb131) (o := .cells #[.int .i64 a0_0, .int .i64 a0_1, .int .i64 a0_2, .int .i64 a0_3, .slice A0_4 l0_4.length c0_4] 26 (0, 0)) (by (with_reducible repeat (first | refine zG ?_ _ | refine zH ?_ | refine zD ?_ _)); exact BK131.out) k_ hk⟩)); (case aO => exact (by (with_reducible repeat (first | apply Kd.N_alloc | apply Kd.N_drewN | apply Kd.N_drew)); exact Kd.N_mono HO_5.out (fun _ hk => ⟨hk.1.1, ⟨hk.1.2.1, hk.1.2.2⟩⟩))); (case aS => exact (zL (by repeat (first | (with_reducible first | exact HB.out | apply zC | apply zB | apply zF | refine zE ?_ GE131.out) | exact HB.out)))); (case aL => have := LMc58.out; omega); intro v177 w62 ho hb hg hat; rw [← Ny176.out] at ho; have n0_ := zA (Kd.R_over' (by (with_reducible repeat (first | apply zN | apply zM | apply zO)); exact HO_6.out) (Kd.N_typed (by (with_reducible repeat (first | apply Kd.N_alloc | apply Kd.N_drewN | apply Kd.N_drew)); exact HO_5.out)) (by decide) hg); have n1_ := zA (blk_grown (g := gb131) (o := .cells #[.int .i64 a0_0, .int .i64 a0_1, .int .i64 a0_2, .int .i64 a0_3, .slice A0_4 l0_4.length c0_4] 26 (0, 0)) (by (with_reducible repeat (first | refine zG ?_ _ | refine zH ?_ | refine zD ?_ _)); exact BK131.out) hg (Kd.N_ne HO_5.out BK131.out (by decide))); have n2_ := zA (hb); have n3_ := zA (ho); clear HO_6; clear BK131; clear HB; clear HO_5; clear HO175; have HO_6 := n0_; have BK131 := n1_; have HB := n2_; have HO178 := n3_; clear n0_ n1_ n2_ n3_; clear ho hb hg hat))
                  go_roundg k4
                  case measure => have := HJ2.out; have := HK2.out; have := HK3.out; have := HK4.out; omega
                  case rel => exact ⟨(y176), (wrap64 (x10_4 + 1)), (by first | rfl | (simp; done) | (simp [*]; done)), H', ⟨by have := HJ2.out; have := HK2.out; have := HK3.out; have := HK4.out; omega⟩, ⟨by (with_reducible repeat (first | apply Kd.N_alloc | apply Kd.N_drewN | apply Kd.N_drew)); exact HO178.out⟩, ⟨by (with_reducible repeat (first | apply zN | apply zM | apply zO)); exact zP HO_6.out (fun _ hk => hk.1)⟩, ⟨by (with_reducible repeat (first | refine zG ?_ _ | refine zH ?_ | refine zD ?_ _)); exact BK131.out⟩, ⟨by repeat (first | (with_reducible first | exact HB.out | apply zC | apply zB | apply zF | refine zE ?_ GE131.out) | exact HB.out)⟩⟩
                 ·rw [if_neg c58] at H
                  exact absurd H (by simp)
                ·rw [if_neg c57] at H
                 have c57b0 : decide (x10_4 < (x6_2.length : Int)) = false := decide_eq_false c57
                 clear c57
                 obtain ⟨y179, hy179⟩ : ∃ y_ : List Int, y_ = (([] : List Int)) := ⟨_, rfl⟩
                 replace H : (if y179.length + x6_2.length < 17592186044416 then (if x5_4.length < 2513169434916 then (spec_ScriptFor.l4 k4 (x5_4 ++ [(⟨(y179 ++ x6_2), 0, 0, 1, 0⟩ : S38)]) x6_2 0) else (none)) else (none)) = some r := by first | (rw [hy179]; with_reducible exact H) | (have H2_ := (zS _ _).symm.trans H; rw [hy179]; with_reducible exact H2_) | (have H2_ := (zS _ _).symm.trans H; with_reducible exact H2_) | with_reducible exact H | (rw [hy179]; exact H) | exact H
                 have Ny179 := zA hy179
                 clear hy179
                 by_cases c63 : y179.length + x6_2.length < 17592186044416
                 ·rw [if_pos c63] at H
                  have LMc63 := zA c63
                  clear c63
                  obtain ⟨y182, hy182⟩ : ∃ y_ : List Int, y_ = (y179 ++ x6_2) := ⟨_, rfl⟩
                  replace H : (if x5_4.length < 2513169434916 then (spec_ScriptFor.l4 k4 (x5_4 ++ [(⟨y182, 0, 0, 1, 0⟩ : S38)]) x6_2 0) else (none)) = some r := by first | (rw [hy182]; with_reducible exact H) | (have H2_ := (zS _ _).symm.trans H; rw [hy182]; with_reducible exact H2_) | (have H2_ := (zS _ _).symm.trans H; with_reducible exact H2_) | with_reducible exact H | (rw [hy182]; exact H) | exact H
                  have Ny182 := zA hy182
                  clear hy182
                  by_cases c64 : x5_4.length < 2513169434916
                  ·rw [if_pos c64] at H
                   have LMc64 := zA c64
                   clear c64
                   obtain ⟨y185, hy185⟩ : ∃ y_ : List (S38), y_ = (x5_4 ++ [(⟨y182, 0, 0, 1, 0⟩ : S38)]) := ⟨_, rfl⟩
                   replace H : (spec_ScriptFor.l4 k4 y185 x6_2 0) = some r := by first | (rw [hy185]; with_reducible exact H) | (have H2_ := (zS _ _).symm.trans H; rw [hy185]; with_reducible exact H2_) | (have H2_ := (zS _ _).symm.trans H; with_reducible exact H2_) | with_reducible exact H | (rw [hy185]; exact H) | exact H
                   have Ny185 := zA hy185
                   clear hy185
                   have H' := zA H
                   clear H
                   go_wp2_with (first | ((with_reducible refine gate_dst (N := 91) rfl ?_); refine Kd.R_lit (Kd.int .i64) _ 3 ?hg (N := 91) ?hd (xs := ([] : List Int)) (inner := []) (ok := fun _ => True) (okp := fun _ => True) ?hr ?hp (fun _ hk => hk) trivial (Below.refl _ _) (Nat.le_refl _) (by simp) ?_; (case hd => rfl); (case hg => rfl); (case hr => first | (go_simp; done) | (go_simp; rfl)); (case hp => exact (Reps.none _ _)); intro v180 w65 ho66 hb hg_ hnew_; clear hg_ hnew_; (first | rw [← Ny179.out] at ho66 | (simp only [Int.reduceToNat] at ho66; rw [← Ny179.out] at ho66)); have n0_ := zA (Kd.N_elder' (by (with_reducible repeat (first | apply Kd.N_alloc | apply Kd.N_drewN | apply Kd.N_drew)); exact HO_5.out) (Kd.R_base ho66) hb); have n1_ := zA (Kd.R_elder' (by (with_reducible repeat (first | apply zN | apply zM | apply zO)); exact HO_6.out) (Kd.R_base ho66) hb); have n2_ := zA (Kd.R_lower (Kd.R_new' (Kd.R_newM (M := fun k_ => (w.heap.size ≤ k_)) ho66 (zL (by repeat (first | (with_reducible first | exact HB.out | apply zC | apply zB | apply zF | refine zE ?_ GE131.out) | exact HB.out))) (fun k_ h_ => h_)) (Kd.R_lt (by (with_reducible repeat (first | apply zN | apply zM | apply zO)); exact HO_6.out))) (zL (by repeat (first | (with_reducible first | exact HB.out | apply zC | apply zB | apply zF | refine zE ?_ GE131.out) | exact HB.out)))); have n3_ := zA (blk_below (g := gb131) (o := .cells #[.int .i64 a0_0, .int .i64 a0_1, .int .i64 a0_2, .int .i64 a0_3, .slice A0_4 l0_4.length c0_4] 26 (0, 0)) (by (with_reducible repeat (first | refine zG ?_ _ | refine zH ?_ | refine zD ?_ _)); exact BK131.out) hb); have n4_ := zA (below_step (by repeat (first | (with_reducible first | exact HB.out | apply zC | apply zB | apply zF | refine zE ?_ GE131.out) | exact HB.out)) hb); clear HO_5; clear HO_6; clear BK131; clear HB; have HO_5 := n0_; have HO_6 := n1_; have HO181 := n2_; have BK131 := n3_; have HB := n4_; clear n0_ n1_ n2_ n3_ n4_; clear hb ho66) | ((with_reducible refine gate_builtin (b := .append) (xs := #[.tmp 91, .tmp 92]) rfl ?_); at_builtin; refine Kd.R_append_rows (Kd.int .i64) (w0 := w) w.heap.size rfl (.tmp 91) (.tmp 92) 36 3 (.int .i64 0) 8 rfl Try.underlying36 info3 rfl (by decide) (by omega) v180 y179 x6_2 _ _ _ (fun k_ => (w.heap.size ≤ k_) ∧ some k_ ≠ (.slice Ao42 x6_2.length co42 : Value).ownBlock) (fun _ => False) rfl rfl ?aO ?aR (fun _ _ h => h) (fun _ h => h.elim) ?aF ?aB ?aS ?aL ?_; (case aR => repeat (first | exact (yK HO_6.out).2.2 | (with_reducible refine yN ?_ _) | (with_reducible refine yL ?_ _) | (with_reducible refine yM ?_))); (case aB => exact (by repeat (first | (with_reducible first | exact HB.out | apply zC | apply zB | apply zF | refine zE ?_ GE131.out) | exact HB.out))); (case aF => exact (fun k_ hk => ⟨(Nat.le_trans (zL (by repeat (first | (with_reducible first | exact HB.out | apply zC | apply zB | apply zF | refine zE ?_ GE131.out) | exact HB.out))) hk), Kd.fresh' (Kd.R_lt (by (with_reducible repeat (first | apply zN | apply zM | apply zO)); exact HO_6.out)) k_ hk⟩)); (case aO => exact (by (with_reducible repeat (first | apply zN | apply zM | apply zO)); exact zP HO181.out (fun _ hk => ⟨hk.1.1, hk.2⟩))); (case aS => exact (zL (by repeat (first | (with_reducible first | exact HB.out | apply zC | apply zB | apply zF | refine zE ?_ GE131.out) | exact HB.out)))); (case aL => have := LMc63.out; omega); intro v183 w67 ho hb hg hat; rw [← Ny182.out] at ho; have n0_ := zA (Kd.N_afterv (ok := (fun k_ => (w.heap.size ≤ k_) ∧ some k_ ≠ (.slice Ao42 x6_2.length co42 : Value).ownBlock ∧ k_ ≠ gb131)) (by (with_reducible repeat (first | apply Kd.N_alloc | apply Kd.N_drewN | apply Kd.N_drew)); exact HO_5.out) hg hat); have n1_ := zA (Kd.R_after (ok := (fun k_ => (w.heap.size ≤ k_))) (by (with_reducible repeat (first | apply zN | apply zM | apply zO)); exact HO_6.out) hg hat); have n2_ := zA (blk_grown (g := gb131) (o := .cells #[.int .i64 a0_0, .int .i64 a0_1, .int .i64 a0_2, .int .i64 a0_3, .slice A0_4 l0_4.length c0_4] 26 (0, 0)) (by (with_reducible repeat (first | refine zG ?_ _ | refine zH ?_ | refine zD ?_ _)); exact BK131.out) hg (Kd.R_ne HO181.out BK131.out (by decide))); have n3_ := zA (hb); have n4_ := zA (ho); clear HO_5; clear HO_6; clear BK131; clear HB; clear HO181; have HO_5 := n0_; have HO_6 := n1_; have BK131 := n2_; have HB := n3_; have HO184 := n4_; clear n0_ n1_ n2_ n3_ n4_; clear ho hb hg hat; obtain ⟨Ao68, co68, eo68⟩ := Kd.R_slice HO184.out; subst eo68) | ((with_reducible refine gate_builtin (b := .append) (xs := #[.tmp 90, .tmp 95]) rfl ?_); at_builtin; refine Kd.N_append k38 (w0 := w) w.heap.size rfl (.tmp 90) (.tmp 95) 27 38 (.agg #[(.slice none 0 0), (.int .i64 0), (.int .i64 0), (.int .i64 0), (.int .i64 0)]) 56 rfl Try.underlying27 info38 rfl (by decide) (by omega) u5 x5_4 (⟨y182, 0, 0, 1, 0⟩ : S38) [.slice Ao68 y182.length co68, .int .i64 0, .int .i64 0, .int .i64 1, .int .i64 0] (fun k_ => (w.heap.size ≤ k_) ∧ some k_ ≠ (.slice Ao42 x6_2.length co42 : Value).ownBlock ∧ k_ ≠ gb131) (fun k_ => ((fun k_ => (w.heap.size ≤ k_) ∧ some k_ ≠ (.slice Ao42 x6_2.length co42 : Value).ownBlock ∧ k_ ≠ gb131)) k_ ∧ some k_ ≠ (u5 : Value).ownBlock) rfl rfl ?aP (fun _ hk => hk) ?aF ?aO ?aB ?aS ?aL ?_; (case aP => exact (k38_mkF _ _ (⟨y182, 0, 0, 1, 0⟩ : S38) (yK (zP (ok' := (fun k_ => ((fun k_ => (w.heap.size ≤ k_) ∧ some k_ ≠ (.slice Ao42 x6_2.length co42 : Value).ownBlock ∧ k_ ≠ gb131)) k_ ∧ some k_ ≠ (u5 : Value).ownBlock)) (zY (Kd.R_apart' (HO184.out) (Kd.N_typed HO_5.out) (by decide)) BK131.out (by decide)) (fun k_ hk => ⟨⟨hk.1.1.1, ⟨hk.1.1.2, hk.2⟩⟩, hk.1.2⟩))).2.1 (Kd.R_F (zP (ok' := (fun k_ => ((fun k_ => (w.heap.size ≤ k_) ∧ some k_ ≠ (.slice Ao42 x6_2.length co42 : Value).ownBlock ∧ k_ ≠ gb131)) k_ ∧ some k_ ≠ (u5 : Value).ownBlock)) (zY (Kd.R_apart' (HO184.out) (Kd.N_typed HO_5.out) (by decide)) BK131.out (by decide)) (fun k_ hk => ⟨⟨hk.1.1.1, ⟨hk.1.1.2, hk.2⟩⟩, hk.1.2⟩))))); (case aB => exact (by repeat (first | (with_reducible first | exact HB.out | apply zC | apply zB | apply zF | refine zE ?_ GE131.out) | exact HB.out))); (case aF => exact (fun k_ hk => ⟨(Nat.le_trans (zL (by repeat (first | (with_reducible first | exact HB.out | apply zC | apply zB | apply zF | refine zE ?_ GE131.out) | exact HB.out))) hk), Kd.fresh' (Kd.R_lt (by (with_reducible repeat (first | apply zN | apply zM | apply zO)); exact HO_6.out)) k_ hk, Kd.freshB (g := gb131) (o := .cells #[.int .i64 a0_0, .int .i64 a0_1, .int .i64 a0_2, .int .i64 a0_3, .slice A0_4 l0_4.length c0_4] 26 (0, 0)) (by (with_reducible repeat (first | refine zG ?_ _ | refine zH ?_ | refine zD ?_ _)); exact BK131.out) k_ hk⟩)); (case aO => exact (by (with_reducible repeat (first | apply Kd.N_alloc | apply Kd.N_drewN | apply Kd.N_drew)); exact Kd.N_mono HO_5.out (fun _ hk => ⟨hk.1.1, ⟨hk.1.2.1, hk.1.2.2⟩⟩))); (case aS => exact (zL (by repeat (first | (with_reducible first | exact HB.out | apply zC | apply zB | apply zF | refine zE ?_ GE131.out) | exact HB.out)))); (case aL => have := LMc64.out; omega); intro v186 w69 ho hb hg hat; rw [← Ny185.out] at ho; have n0_ := zA (Kd.R_over' (by (with_reducible repeat (first | apply zN | apply zM | apply zO)); exact HO_6.out) (Kd.N_typed (by (with_reducible repeat (first | apply Kd.N_alloc | apply Kd.N_drewN | apply Kd.N_drew)); exact HO_5.out)) (by decide) hg); have n1_ := zA (blk_grown (g := gb131) (o := .cells #[.int .i64 a0_0, .int .i64 a0_1, .int .i64 a0_2, .int .i64 a0_3, .slice A0_4 l0_4.length c0_4] 26 (0, 0)) (by (with_reducible repeat (first | refine zG ?_ _ | refine zH ?_ | refine zD ?_ _)); exact BK131.out) hg (Kd.N_ne HO_5.out BK131.out (by decide))); have n2_ := zA (hb); have n3_ := zA (ho); clear HO_6; clear BK131; clear HB; clear HO_5; clear HO184; have HO_6 := n0_; have BK131 := n1_; have HB := n2_; have HO187 := n3_; clear n0_ n1_ n2_ n3_; clear ho hb hg hat))
                   go_loopg [5, 11] k4 (fun kq v5 v11 w' => ∃ (x5_5 : List (S38)) (x11_5 : Int), v11 = .int .i64 x11_5 ∧ Aside0 (spec_ScriptFor.l4 kq x5_5 x6_2 x11_5 = some r) ∧ Aside0 (kq ≤ k4) ∧ Aside0 (Kd.N k38 38 w' w.heap.size (fun k_ => (w.heap.size ≤ k_) ∧ some k_ ≠ ((.slice Ao42 x6_2.length co42) : Value).ownBlock ∧ k_ ≠ gb131) v5 x5_5) ∧ Aside0 (Kd.R (Kd.int .i64) 3 w' w.heap.size (fun k_ => (w.heap.size ≤ k_)) (.slice Ao42 x6_2.length co42) x6_2) ∧ Aside0 (w'.heap[gb131]? = some (.cells #[.int .i64 a0_0, .int .i64 a0_1, .int .i64 a0_2, .int .i64 a0_3, (.slice A0_4 l0_4.length c0_4)] 26 (0, 0))) ∧ Aside0 (Below w.heap.size w w'))
                   case atStart => exact ⟨(y185), (0), (by first | rfl | (simp; done) | (simp [*]; done)), H', ⟨Nat.le_refl _⟩, ⟨by (with_reducible repeat (first | apply Kd.N_alloc | apply Kd.N_drewN | apply Kd.N_drew)); exact HO187.out⟩, ⟨by (with_reducible repeat (first | apply zN | apply zM | apply zO)); exact zP HO_6.out (fun _ hk => hk.1)⟩, ⟨by (with_reducible repeat (first | refine zG ?_ _ | refine zH ?_ | refine zD ?_ _)); exact BK131.out⟩, ⟨by repeat (first | (with_reducible first | exact HB.out | apply zC | apply zB | apply zF | refine zE ?_ GE131.out) | exact HB.out)⟩⟩
                   case round =>
                    clear H'
                    try clear c1
                    try clear c2
                    try clear p2
                    try clear c3
                    try clear c4
                    try clear c5
                    try clear c6
                    try clear p6
                    try clear c8
                    try clear c11
                    try clear c12
                    try clear c14
                    try clear c17
                    try clear c17b0
                    try clear c18
                    try clear c21
                    try clear c21b0
                    try clear c21b1
                    try clear c22
                    try clear c26
                    try clear c26b0
                    try clear c26b1
                    try clear c28
                    try clear c28b0
                    try clear c29
                    try clear c36
                    try clear c37
                    try clear c45
                    try clear c45b0
                    try clear c46
                    try clear c57
                    try clear c57b0
                    try clear c58
                    try clear c63
                    try clear c64
                    try clear p64
                    try clear hcz10_0
                    try clear hcz10_1
                    try clear hcz10_2
                    try clear hcz10_3
                    try clear hcz10_4
                    try clear hcz12_0
                    try clear hcz12_1
                    try clear hcz12_2
                    try clear hcz12_3
                    try clear hcz12_4
                    try clear hcz19_0
                    try clear hcz19_1
                    try clear hcz19_2
                    try clear hcz19_3
                    try clear hcz19_4
                    try clear hcz23_0
                    try clear hcz23_1
                    try clear hcz23_2
                    try clear hcz23_3
                    try clear hcz23_4
                    try clear hcz27_0
                    try clear hcz27_1
                    try clear hcz27_2
                    try clear hcz27_3
                    try clear hcz27_4
                    try clear hcz38_0
                    try clear hcz38_1
                    try clear hcz38_2
                    try clear hcz38_3
                    try clear hcz38_4
                    try clear hfz10_0
                    try clear hfz10_1
                    try clear hfz10_2
                    try clear hfz10_3
                    try clear hfz10_4
                    try clear hfz12_0
                    try clear hfz12_1
                    try clear hfz12_2
                    try clear hfz12_3
                    try clear hfz12_4
                    try clear hfz19_0
                    try clear hfz19_1
                    try clear hfz19_2
                    try clear hfz19_3
                    try clear hfz19_4
                    try clear hfz23_0
                    try clear hfz23_1
                    try clear hfz23_2
                    try clear hfz23_3
                    try clear hfz23_4
                    try clear hfz27_0
                    try clear hfz27_1
                    try clear hfz27_2
                    try clear hfz27_3
                    try clear hfz27_4
                    try clear hfz38_0
                    try clear hfz38_1
                    try clear hfz38_2
                    try clear hfz38_3
                    try clear hfz38_4
                    try clear p2
                    try clear p6
                    obtain ⟨x5_5, x11_5, rfl, HA, HK5, HO_5, HO_6, BK131, HB⟩ := hrel
                    cases gk with
                    | zero => exact absurd HA.out (by simp [spec_ScriptFor.l4])
                    | succ k5 =>
                     have H := HA.out
                     clear HA
                     simp only [spec_ScriptFor.l4] at H
                     by_cases c70 : x11_5 < (x6_2.length : Int)
                     ·rw [if_pos c70] at H
                      have c70b0 : decide (x11_5 < (x6_2.length : Int)) = true := zT c70
                      clear c70
                      obtain ⟨y188, hy188⟩ : ∃ y_ : List Int, y_ = (([x11_5] : List Int)) := ⟨_, rfl⟩
                      replace H : (if x5_5.length < 2513169434916 then (spec_ScriptFor.l4 k5 (x5_5 ++ [(⟨y188, 1, 63, 1, 0⟩ : S38)]) x6_2 (wrap64 (x11_5 + 1))) else (none)) = some r := by first | (rw [hy188]; with_reducible exact H) | (have H2_ := (zS _ _).symm.trans H; rw [hy188]; with_reducible exact H2_) | (have H2_ := (zS _ _).symm.trans H; with_reducible exact H2_) | with_reducible exact H | (rw [hy188]; exact H) | exact H
                      have Ny188 := zA hy188
                      clear hy188
                      by_cases c71 : x5_5.length < 2513169434916
                      ·rw [if_pos c71] at H
                       have LMc71 := zA c71
                       clear c71
                       obtain ⟨y191, hy191⟩ : ∃ y_ : List (S38), y_ = (x5_5 ++ [(⟨y188, 1, 63, 1, 0⟩ : S38)]) := ⟨_, rfl⟩
                       replace H : (spec_ScriptFor.l4 k5 y191 x6_2 (wrap64 (x11_5 + 1))) = some r := by first | (rw [hy191]; with_reducible exact H) | (have H2_ := (zS _ _).symm.trans H; rw [hy191]; with_reducible exact H2_) | (have H2_ := (zS _ _).symm.trans H; with_reducible exact H2_) | with_reducible exact H | (rw [hy191]; exact H) | exact H
                       have Ny191 := zA hy191
                       clear hy191
                       have H' := zA H
                       clear H
                       go_wp2_with (first | ((with_reducible refine gate_dst (N := 105) rfl ?_); refine Kd.R_lit (Kd.int .i64) _ 3 ?hg (N := 105) ?hd (xs := ([x11_5] : List Int)) (inner := [.int .i64 x11_5]) (ok := fun _ => True) (okp := fun _ => True) ?hr ?hp (fun _ hk => hk) trivial (Below.refl _ _) (Nat.le_refl _) (by simp) ?_; (case hd => rfl); (case hg => rfl); (case hr => first | (go_simp; done) | (go_simp; rfl)); (case hp => exact (Reps.one (show Kd.M (Kd.int .i64) _ _ _ x11_5 [.int .i64 x11_5] from rfl) (Reps.none _ _))); intro v189 w72 ho73 hb hg_ hnew_; clear hg_ hnew_; (first | rw [← Ny188.out] at ho73 | (simp only [Int.reduceToNat] at ho73; rw [← Ny188.out] at ho73)); have n0_ := zA (Kd.N_elder' (by (with_reducible repeat (first | apply Kd.N_alloc | apply Kd.N_drewN | apply Kd.N_drew)); exact HO_5.out) (Kd.R_base ho73) hb); have n1_ := zA (Kd.R_elder' (by (with_reducible repeat (first | apply zN | apply zM | apply zO)); exact HO_6.out) (Kd.R_base ho73) hb); have n2_ := zA (Kd.R_lower (Kd.R_new' (Kd.R_newM (M := fun k_ => (w.heap.size ≤ k_)) ho73 (zL (by repeat (first | (with_reducible first | exact HB.out | apply zC | apply zB | apply zF | refine zE ?_ GE131.out) | exact HB.out))) (fun k_ h_ => h_)) (Kd.R_lt (by (with_reducible repeat (first | apply zN | apply zM | apply zO)); exact HO_6.out))) (zL (by repeat (first | (with_reducible first | exact HB.out | apply zC | apply zB | apply zF | refine zE ?_ GE131.out) | exact HB.out)))); have n3_ := zA (blk_below (g := gb131) (o := .cells #[.int .i64 a0_0, .int .i64 a0_1, .int .i64 a0_2, .int .i64 a0_3, .slice A0_4 l0_4.length c0_4] 26 (0, 0)) (by (with_reducible repeat (first | refine zG ?_ _ | refine zH ?_ | refine zD ?_ _)); exact BK131.out) hb); have n4_ := zA (below_step (by repeat (first | (with_reducible first | exact HB.out | apply zC | apply zB | apply zF | refine zE ?_ GE131.out) | exact HB.out)) hb); clear HO_5; clear HO_6; clear BK131; clear HB; have HO_5 := n0_; have HO_6 := n1_; have HO190 := n2_; have BK131 := n3_; have HB := n4_; clear n0_ n1_ n2_ n3_ n4_; clear hb ho73; obtain ⟨Ao74, co74, eo74⟩ := Kd.R_slice HO190.out; subst eo74) | ((with_reducible refine gate_builtin (b := .append) (xs := #[.tmp 103, .tmp 107]) rfl ?_); at_builtin; refine Kd.N_append k38 (w0 := w) w.heap.size rfl (.tmp 103) (.tmp 107) 27 38 (.agg #[(.slice none 0 0), (.int .i64 0), (.int .i64 0), (.int .i64 0), (.int .i64 0)]) 56 rfl Try.underlying27 info38 rfl (by decide) (by omega) u5 x5_5 (⟨y188, 1, 63, 1, 0⟩ : S38) [.slice Ao74 y188.length co74, .int .i64 1, .int .i64 63, .int .i64 1, .int .i64 0] (fun k_ => (w.heap.size ≤ k_) ∧ some k_ ≠ (.slice Ao42 x6_2.length co42 : Value).ownBlock ∧ k_ ≠ gb131) (fun k_ => ((fun k_ => (w.heap.size ≤ k_) ∧ some k_ ≠ (.slice Ao42 x6_2.length co42 : Value).ownBlock ∧ k_ ≠ gb131)) k_ ∧ some k_ ≠ (u5 : Value).ownBlock) rfl rfl ?aP (fun _ hk => hk) ?aF ?aO ?aB ?aS ?aL ?_; (case aP => exact (k38_mkF _ _ (⟨y188, 1, 63, 1, 0⟩ : S38) (yK (zP (ok' := (fun k_ => ((fun k_ => (w.heap.size ≤ k_) ∧ some k_ ≠ (.slice Ao42 x6_2.length co42 : Value).ownBlock ∧ k_ ≠ gb131)) k_ ∧ some k_ ≠ (u5 : Value).ownBlock)) (zY (Kd.R_apart' (HO190.out) (Kd.N_typed HO_5.out) (by decide)) BK131.out (by decide)) (fun k_ hk => ⟨⟨hk.1.1.1.1, ⟨hk.1.1.2, hk.2⟩⟩, hk.1.2⟩))).2.1 (Kd.R_F (zP (ok' := (fun k_ => ((fun k_ => (w.heap.size ≤ k_) ∧ some k_ ≠ (.slice Ao42 x6_2.length co42 : Value).ownBlock ∧ k_ ≠ gb131)) k_ ∧ some k_ ≠ (u5 : Value).ownBlock)) (zY (Kd.R_apart' (HO190.out) (Kd.N_typed HO_5.out) (by decide)) BK131.out (by decide)) (fun k_ hk => ⟨⟨hk.1.1.1.1, ⟨hk.1.1.2, hk.2⟩⟩, hk.1.2⟩))))); (case aB => exact (by repeat (first | (with_reducible first | exact HB.out | apply zC | apply zB | apply zF | refine zE ?_ GE131.out) | exact HB.out))); (case aF => exact (fun k_ hk => ⟨(Nat.le_trans (zL (by repeat (first | (with_reducible first | exact HB.out | apply zC | apply zB | apply zF | refine zE ?_ GE131.out) | exact HB.out))) hk), Kd.fresh' (Kd.R_lt (by (with_reducible repeat (first | apply zN | apply zM | apply zO)); exact HO_6.out)) k_ hk, Kd.freshB (g := gb131) (o := .cells #[.int .i64 a0_0, .int .i64 a0_1, .int .i64 a0_2, .int .i64 a0_3, .slice A0_4 l0_4.length c0_4] 26 (0, 0)) (by (with_reducible repeat (first | refine zG ?_ _ | refine zH ?_ | refine zD ?_ _)); exact BK131.out) k_ hk⟩)); (case aO => exact (by (with_reducible repeat (first | apply Kd.N_alloc | apply Kd.N_drewN | apply Kd.N_drew)); exact Kd.N_mono HO_5.out (fun _ hk => ⟨hk.1.1, ⟨hk.1.2.1, hk.1.2.2⟩⟩))); (case aS => exact (zL (by repeat (first | (with_reducible first | exact HB.out | apply zC | apply zB | apply zF | refine zE ?_ GE131.out) | exact HB.out)))); (case aL => have := LMc71.out; omega); intro v192 w75 ho hb hg hat; rw [← Ny191.out] at ho; have n0_ := zA (Kd.R_over' (by (with_reducible repeat (first | apply zN | apply zM | apply zO)); exact HO_6.out) (Kd.N_typed (by (with_reducible repeat (first | apply Kd.N_alloc | apply Kd.N_drewN | apply Kd.N_drew)); exact HO_5.out)) (by decide) hg); have n1_ := zA (blk_grown (g := gb131) (o := .cells #[.int .i64 a0_0, .int .i64 a0_1, .int .i64 a0_2, .int .i64 a0_3, .slice A0_4 l0_4.length c0_4] 26 (0, 0)) (by (with_reducible repeat (first | refine zG ?_ _ | refine zH ?_ | refine zD ?_ _)); exact BK131.out) hg (Kd.N_ne HO_5.out BK131.out (by decide))); have n2_ := zA (hb); have n3_ := zA (ho); clear HO_6; clear BK131; clear HB; clear HO_5; clear HO190; have HO_6 := n0_; have BK131 := n1_; have HB := n2_; have HO193 := n3_; clear n0_ n1_ n2_ n3_; clear ho hb hg hat))
                       go_roundg k5
                       case measure => have := HJ2.out; have := HK2.out; have := HK3.out; have := HK4.out; have := HK5.out; omega
                       case rel => exact ⟨(y191), (wrap64 (x11_5 + 1)), (by first | rfl | (simp; done) | (simp [*]; done)), H', ⟨by have := HJ2.out; have := HK2.out; have := HK3.out; have := HK4.out; have := HK5.out; omega⟩, ⟨by (with_reducible repeat (first | apply Kd.N_alloc | apply Kd.N_drewN | apply Kd.N_drew)); exact HO193.out⟩, ⟨by (with_reducible repeat (first | apply zN | apply zM | apply zO)); exact zP HO_6.out (fun _ hk => hk.1)⟩, ⟨by (with_reducible repeat (first | refine zG ?_ _ | refine zH ?_ | refine zD ?_ _)); exact BK131.out⟩, ⟨by repeat (first | (with_reducible first | exact HB.out | apply zC | apply zB | apply zF | refine zE ?_ GE131.out) | exact HB.out)⟩⟩
                      ·rw [if_neg c71] at H
                       exact absurd H (by simp)
                     ·rw [if_neg c70] at H
                      have c70b0 : decide (x11_5 < (x6_2.length : Int)) = false := decide_eq_false c70
                      clear c70
                      obtain rfl := Option.some.inj H
                      go_wp2
                      go_ret
                      exact ⟨_, by first | rfl | (simp [errW_none, errW_some] <;> rfl) | (simp [*, errW_none, errW_some] <;> rfl), by (with_reducible repeat (first | apply Kd.N_alloc | apply Kd.N_drewN | apply Kd.N_drew)); exact Kd.N_mono HO_5.out (fun _ hk => hk.1), by repeat (first | (with_reducible first | exact HB.out | apply zC | apply zB | apply zF | refine zE ?_ GE131.out) | exact HB.out)⟩
                  ·rw [if_neg c64] at H
                   exact absurd H (by simp)
                 ·rw [if_neg c63] at H
                  exact absurd H (by simp)
          ·rw [if_neg c37] at H
           exact absurd H (by simp)
         ·rw [if_neg c36] at H
          exact absurd H (by simp)
theorem drop_allM (n i : Nat) (h : i < n) : (allM n).drop i = (i : Int) :: (allM n).drop (i + 1) := by
 have hl : i < (allM n).length := by rw [allM_len]; exact h
 rw [List.drop_eq_getElem_cons hl]
 congr 1
 simp [allM]
theorem eachM_cons (ps : List SN) (x : Int) (l : List Int) : eachM ps (x :: l) = ps.map (oneS x) ++ eachM ps l := List.flatMap_cons ..
theorem spec_ScriptFor.l1_ev (n : Nat) (hn : n ≤ 100) : ∀ (d i : Nat) (out : List SN), i + d = n → out.length + d ≤ 1000 → Ev (fun k => spec_ScriptFor.l1 k out (allM n) (i : Int)) (out ++ eachM [⟨[], 0, 63, 0, 0⟩] ((allM n).drop i)) := by
 intro d
 induction d with
 | zero =>
  intro i out hi ho
  refine Ev.step (fun _ => by rw [spec_ScriptFor.l1]) ?_
  rw [allM_len]
  refine Ev.ng (by omega) (Ev.eq (Ev.now _) ?_)
  rw [List.drop_of_length_le (by rw [allM_len]; omega)]; simp [eachM]
 | succ d ih =>
  intro i out hi ho
  refine Ev.step (fun _ => by rw [spec_ScriptFor.l1]) ?_
  rw [allM_len, wrap_succ i (by omega)]
  refine Ev.ip (by omega) (Ev.ip (by omega) ?_)
  refine Ev.eq (ih (i + 1) _ (by omega) (by rw [zX, List.length_singleton]; omega)) ?_
  rw [drop_allM n i (by omega), eachM_cons, List.append_assoc]; rfl
theorem spec_ScriptFor.l4_ev (n : Nat) (hn : n ≤ 100) : ∀ (d i : Nat) (out : List SN), i + d = n → out.length + d ≤ 1000 → Ev (fun k => spec_ScriptFor.l4 k out (allM n) (i : Int)) (out ++ eachM [⟨[], 1, 63, 1, 0⟩] ((allM n).drop i)) := by
 intro d
 induction d with
 | zero =>
  intro i out hi ho
  refine Ev.step (fun _ => by rw [spec_ScriptFor.l4]) ?_
  rw [allM_len]
  refine Ev.ng (by omega) (Ev.eq (Ev.now _) ?_)
  rw [List.drop_of_length_le (by rw [allM_len]; omega)]; simp [eachM]
 | succ d ih =>
  intro i out hi ho
  refine Ev.step (fun _ => by rw [spec_ScriptFor.l4]) ?_
  rw [allM_len, wrap_succ i (by omega)]
  refine Ev.ip (by omega) (Ev.ip (by omega) ?_)
  refine Ev.eq (ih (i + 1) _ (by omega) (by rw [zX, List.length_singleton]; omega)) ?_
  rw [drop_allM n i (by omega), eachM_cons, List.append_assoc]; rfl
theorem spec_ScriptFor.l3_ev (n : Nat) (hn : n ≤ 100) : ∀ (d i : Nat) (out : List SN), i + d = n → out.length + d + n + 1 ≤ 1000 → Ev (fun k => spec_ScriptFor.l3 k out (allM n) (i : Int)) (out ++ eachM [⟨[], 1, 63, 2, 1⟩] ((allM n).drop i) ++ [(⟨allM n, 0, 0, 1, 0⟩ : SN)] ++ eachM [⟨[], 1, 63, 1, 0⟩] (allM n)) := by
 intro d
 induction d with
 | zero =>
  intro i out hi ho
  refine Ev.step (fun _ => by rw [spec_ScriptFor.l3]) ?_
  rw [allM_len]
  refine Ev.ng (by omega) (Ev.bind (Ev.c rfl) (Ev.ip (by rw [List.length_nil]; omega) (Ev.ip (by omega) ?_)))
  refine Ev.eq (spec_ScriptFor.l4_ev n hn n 0 _ (Nat.zero_add _) (by rw [zX, List.length_singleton]; omega)) ?_
  rw [List.drop_of_length_le (show (allM n).length ≤ i by rw [allM_len]; omega), List.drop_zero, List.nil_append]; simp [eachM]
 | succ d ih =>
  intro i out hi ho
  refine Ev.step (fun _ => by rw [spec_ScriptFor.l3]) ?_
  rw [allM_len, wrap_succ i (by omega)]
  refine Ev.ip (by omega) (Ev.ip (by omega) ?_)
  refine Ev.eq (ih (i + 1) _ (by omega) (by rw [zX, List.length_singleton]; omega)) ?_
  rw [drop_allM n i (by omega), eachM_cons]; simp [oneS]
theorem spec_ScriptFor.l2_ev (n : Nat) (hn : n ≤ 100) : ∀ (d i : Nat) (out : List SN), i + d = n → out.length + 2 * d + 2 * n + 1 ≤ 1000 → Ev (fun k => spec_ScriptFor.l2 k out (allM n) (i : Int)) (out ++ eachM [⟨[], 1, 5, 0, 2⟩, ⟨[], 6, 63, 0, 2⟩] ((allM n).drop i) ++ eachM [⟨[], 1, 63, 2, 1⟩] (allM n) ++ [(⟨allM n, 0, 0, 1, 0⟩ : SN)] ++ eachM [⟨[], 1, 63, 1, 0⟩] (allM n)) := by
 intro d
 induction d with
 | zero =>
  intro i out hi ho
  refine Ev.step (fun _ => by rw [spec_ScriptFor.l2]) ?_
  rw [allM_len]
  refine Ev.ng (by omega) (Ev.eq (spec_ScriptFor.l3_ev n hn n 0 _ (Nat.zero_add _) (by omega)) ?_)
  rw [List.drop_of_length_le (show (allM n).length ≤ i by rw [allM_len]; omega), List.drop_zero]; simp [eachM]
 | succ d ih =>
  intro i out hi ho
  refine Ev.step (fun _ => by rw [spec_ScriptFor.l2]) ?_
  rw [allM_len, wrap_succ i (by omega)]
  refine Ev.ip (by omega) (Ev.bind (Ev.c rfl) (Ev.ip (by simp only [List.length_cons, List.length_nil]; omega) ?_))
  refine Ev.eq (ih (i + 1) _ (by omega) (by rw [zX]; simp only [List.length_cons, List.length_nil]; omega)) ?_
  rw [drop_allM n i (by omega), eachM_cons]; simp [oneS]
theorem spec_ScriptFor.l0_ev (p w h r : Int) (l : List S102) (hn : l.length ≤ 100) (kind : Int) : ∀ (d i : Nat), i + d = l.length → Ev (fun k => spec_ScriptFor.l0 k kind [] (allM i) (i : Int) p w h r l) (scriptM l.length kind) := by
 intro d
 induction d with
 | zero =>
  intro i hi
  obtain rfl : i = l.length := by omega
  refine Ev.step (fun _ => by rw [spec_ScriptFor.l0]) (Ev.ng (by omega) ?_)
  unfold scriptM
  by_cases k0 : kind = 0
  ·rw [if_pos k0]
   exact Ev.ip k0 (Ev.ip (by rw [List.length_nil]; omega) (Ev.now _))
  rw [if_neg k0]
  refine Ev.ng k0 ?_
  by_cases k1 : kind = 1
  ·rw [if_pos k1]
   refine Ev.ip k1 (Ev.eq (spec_ScriptFor.l1_ev l.length hn l.length 0 [] (Nat.zero_add _) (by rw [List.length_nil]; omega)) ?_)
   rw [List.drop_zero, List.nil_append]
  rw [if_neg k1]
  refine Ev.ng k1 (Ev.bind (Ev.c rfl) (Ev.ip (by rw [List.length_nil, allM_len]; omega) (Ev.ip (by rw [List.length_nil]; omega) ?_)))
  refine Ev.eq (spec_ScriptFor.l2_ev l.length hn l.length 0 _ (Nat.zero_add _) (by simp only [List.nil_append, List.length_cons, List.length_nil]; omega)) ?_
  rw [List.drop_zero, List.nil_append, List.nil_append]
 | succ d ih =>
  intro i hi
  refine Ev.step (fun _ => by rw [spec_ScriptFor.l0]) (Ev.ip (by omega) ?_)
  rw [allM_len, wrap_succ i (by omega), ← allM_succ]
  exact Ev.ip (by omega) (ih (i + 1) (by omega))
theorem spec_ScriptFor.ev (p w h r : Int) (l : List S102) (kind : Int) : Ev (fun k => spec_ScriptFor.f k p w h r l kind) (scriptForM p w h r l kind) := by
 have bad : Ev (fun k => spec_ScriptFor.j0 k kind [] true p w h r l) [] := Ev.step (fun _ => by rw [spec_ScriptFor.j0]) (Ev.ip rfl (Ev.now _))
 unfold spec_ScriptFor.f scriptForM
 refine Ev.bind (Ev.c rfl) (Ev.bind (spec_FrameOk.ev p w h r l) ?_)
 cases hF : frameOkM p w h r l with
 | false => exact Ev.ng (by simp) (Ev.eq bad (by rw [if_neg (fun q => Bool.false_ne_true q.1)]))
 | true =>
  refine Ev.ip rfl (Ev.bind (Ev.c (r := decide (0 ≤ kind ∧ kind ≤ 2)) ?_) ?_)
  ·rw [spec_l01Between.val]; simp only [Bool.decide_and]
  by_cases hk : 0 ≤ kind ∧ kind ≤ 2
  ·rw [if_pos ⟨rfl, hk⟩, zT hk]
   refine Ev.step (fun _ => by rw [spec_ScriptFor.j0]) (Ev.ng (by simp) ?_)
   exact spec_ScriptFor.l0_ev p w h r l (by have := (frameOk_len hF).2; omega) kind l.length 0 (Nat.zero_add _)
  ·rw [if_neg (fun q => hk q.2), decide_eq_false hk]
   exact bad
end Go.Proofs.Ytilimpjcdeeaiaa.G


namespace Go.Proofs.Ytilimpjcdeeaiaa.G
open Go.RowKit Go.Proofs.YtilimpjcdeeaiaaW.PrintWords Go.Proofs.YtilimpjcdeeaiaaW.PrintLast Go.Proofs.YtilimpjcdeeaiaaW.PrintMore
attribute [local go_sem] max2_int min2_int max_two min_two max_three min_three max_four min_four   -- for this text's walks alone
def impl_Frame_has.f (a0_0 : Int) (a0_1 : Int) (a0_2 : Int) (a0_3 : Int) (l0_4 : List (S102)) (a1 : Int) : Option (Bool) := (impl_FrameOk.f a0_0 a0_1 a0_2 a0_3 l0_4).bind fun t242 => (if t242 = true then ((impl_within.f a1 0 (wrap64 ((l0_4.length : Int) - 1))).bind fun t243 => (some t243)) else (some false))
set_option maxHeartbeats 8000000 in
set_option maxRecDepth 100000 in
theorem impl_Frame_has.calls (a0_0 : Int) (a0_1 : Int) (a0_2 : Int) (a0_3 : Int) (A0_4 : Option Addr) (c0_4 : Nat) (l0_4 : List (S102)) (a1 : Int) (r : Bool) (w : World) (hr0_4 : Kd.C k102 w A0_4 l0_4.length l0_4) (hc0_4 : l0_4.length ≤ c0_4) (h : impl_Frame_has.f a0_0 a0_1 a0_2 a0_3 l0_4 a1 = some r) :
  Calls Try.prog 119 #[.agg #[.int .i64 a0_0, .int .i64 a0_1, .int .i64 a0_2, .int .i64 a0_3, .slice A0_4 l0_4.length c0_4], .int .i64 a1] w fun e w' => e = .returned (.bool r) ∧ Below w.heap.size w w' := by
 have hu26 := Try.underlying26
 have HR0_4 := zA hr0_4
 have HC0_4 := zA hc0_4
 clear hr0_4 hc0_4
 have HB := zA (Below.refl w.heap.size w)
 have H : ((impl_FrameOk.f a0_0 a0_1 a0_2 a0_3 l0_4).bind fun t242 => (if t242 = true then ((impl_within.f a1 0 (wrap64 ((l0_4.length : Int) - 1))).bind fun t243 => (some t243)) else (some false))) = some r := h
 clear h
 replace H := Option.bind_eq_some_iff.mp H
 obtain ⟨t242, A30, H⟩ := H
 replace H : (if t242 = true then ((impl_within.f a1 0 (wrap64 ((l0_4.length : Int) - 1))).bind fun t243 => (some t243)) else (some false)) = some r := H
 have A3 := zA A30
 clear A30
 by_cases c4 : t242 = true
 ·subst c4
  have H1 : ((impl_within.f a1 0 (wrap64 ((l0_4.length : Int) - 1))).bind fun t243 => (some t243)) = some r := by rw [if_pos rfl] at H; exact H
  clear H
  have H := H1
  clear H1
  replace H := Option.bind_eq_some_iff.mp H
  obtain ⟨t243, A50, H⟩ := H
  replace H : (some t243) = some r := H
  have A5 := zA A50
  clear A50
  obtain rfl := Option.some.inj H
  go_enter Try.func119, Try.ntmps119
  go_wp2_with (first | ((with_reducible refine gate_dst (N := 2) rfl ?_); (try (refine gate_guard (by rfl) ?_; dsimp only)); refine box_event ?hg (N := 2) ?hd (cs := #[.int .i64 a0_0, .int .i64 a0_1, .int .i64 a0_2, .int .i64 a0_3, .slice A0_4 l0_4.length c0_4]) (t := 26) ?hr ?_; (case hd => rfl); (case hg => rfl); (case hr => first | (go_simp; done) | (go_simp; rfl)); intro gb241 hg w6 hbox hb; have n0_ := zA (below_step (by repeat (first | (with_reducible first | exact HB.out | apply zC | apply zB | apply zF) | exact HB.out)) hb); have n1_ := zA (hbox); have n2_ := zA ((by rw [hg]; exact (zL (by repeat (first | (with_reducible first | exact HB.out | apply zC | apply zB | apply zF) | exact HB.out))) : w.heap.size ≤ gb241)); have n3_ := zA ((by rw [hg]; exact (zL (by repeat (first | (with_reducible first | exact HB.out | apply zC | apply zB | apply zF) | exact HB.out))) : w.heap.size ≤ gb241)); clear HB; have HB := n0_; have BK241 := n1_; have GW241 := n2_; have GE241 := n3_; clear n0_ n1_ n2_ n3_; clear hb hbox hg; have hcz7_0 : w6.cell? ⟨gb241, 0, none⟩ = some (.int .i64 a0_0) := (zK BK241.out 0).trans rfl; have hcz7_1 : w6.cell? ⟨gb241, 1, none⟩ = some (.int .i64 a0_1) := (zK BK241.out 1).trans rfl; have hcz7_2 : w6.cell? ⟨gb241, 2, none⟩ = some (.int .i64 a0_2) := (zK BK241.out 2).trans rfl; have hcz7_3 : w6.cell? ⟨gb241, 3, none⟩ = some (.int .i64 a0_3) := (zK BK241.out 3).trans rfl; have hcz7_4 : w6.cell? ⟨gb241, 4, none⟩ = some (.slice A0_4 l0_4.length c0_4) := (zK BK241.out 4).trans rfl; have hfz7_0 := zJ BK241.out 0; have hfz7_1 := zJ BK241.out 1; have hfz7_2 := zJ BK241.out 2; have hfz7_3 := zJ BK241.out 3; have hfz7_4 := zJ BK241.out 4) | ((with_reducible refine gate_callee (f := 52) rfl ?_); refine goesL_ (some 6) rfl rfl Try.func52 (by kernel_rfl) rfl #[.agg #[.int .i64 a0_0, .int .i64 a0_1, .int .i64 a0_2, .int .i64 a0_3, .slice A0_4 l0_4.length c0_4]] rfl (by (try simp only [zU, zV, zW]); first | done | rfl | (simp only [zR, zQ]; rfl)) ?_; (with_reducible refine (impl_FrameOk.calls a0_0 a0_1 a0_2 a0_3 _ _ l0_4 true _ ?side1 ?side2 A3.out).mono ?_); (case side1 => repeat (first | exact (Kd.C_below HR0_4.out HB.out) | (with_reducible refine yN ?_ _) | (with_reducible refine yL ?_ _) | (with_reducible refine yM ?_))); (case side2 => exact HC0_4.out); rintro e w8 ⟨rfl, hb⟩; refine ⟨_, rfl, ?_⟩; have n0_ := zA (blk_below (g := gb241) (o := .cells #[.int .i64 a0_0, .int .i64 a0_1, .int .i64 a0_2, .int .i64 a0_3, .slice A0_4 l0_4.length c0_4] 26 (0, 0)) (by (with_reducible repeat (first | refine zG ?_ _ | refine zH ?_ | refine zD ?_ _)); exact BK241.out) hb); have n1_ := zA (below_step (by repeat (first | (with_reducible first | exact HB.out | apply zC | apply zB | apply zF | refine zE ?_ GE241.out) | exact HB.out)) hb); clear BK241; clear HB; have BK241 := n0_; have HB := n1_; clear n0_ n1_; (try clear hb); (try clear hb2); (try clear hk); (try clear hi); have hcz9_0 : w8.cell? ⟨gb241, 0, none⟩ = some (.int .i64 a0_0) := (zK BK241.out 0).trans rfl; have hcz9_1 : w8.cell? ⟨gb241, 1, none⟩ = some (.int .i64 a0_1) := (zK BK241.out 1).trans rfl; have hcz9_2 : w8.cell? ⟨gb241, 2, none⟩ = some (.int .i64 a0_2) := (zK BK241.out 2).trans rfl; have hcz9_3 : w8.cell? ⟨gb241, 3, none⟩ = some (.int .i64 a0_3) := (zK BK241.out 3).trans rfl; have hcz9_4 : w8.cell? ⟨gb241, 4, none⟩ = some (.slice A0_4 l0_4.length c0_4) := (zK BK241.out 4).trans rfl; have hfz9_0 := zJ BK241.out 0; have hfz9_1 := zJ BK241.out 1; have hfz9_2 := zJ BK241.out 2; have hfz9_3 := zJ BK241.out 3; have hfz9_4 := zJ BK241.out 4) | (go_at_call 53; (with_reducible refine (impl_within.calls a1 0 (wrap64 ((l0_4.length : Int) - 1)) t243 _ A5.out).mono ?_); rintro e w' ⟨rfl, ⟨nd, rfl⟩⟩))
  go_ret
  exact ⟨by first | rfl | (simp [errW_none, errW_some] <;> rfl) | (simp [*, errW_none, errW_some] <;> rfl), by repeat (first | (with_reducible first | exact HB.out | apply zC | apply zB | apply zF | refine zE ?_ GE241.out) | exact HB.out)⟩
 ·replace c4 := Bool.eq_false_iff.mpr c4
  subst c4
  have H1 : (some false) = some r := by rw [if_neg (show ¬ (false = true) by decide)] at H; exact H
  clear H
  have H := H1
  clear H1
  obtain rfl := Option.some.inj H
  go_enter Try.func119, Try.ntmps119
  go_wp2_with (first | ((with_reducible refine gate_dst (N := 2) rfl ?_); (try (refine gate_guard (by rfl) ?_; dsimp only)); refine box_event ?hg (N := 2) ?hd (cs := #[.int .i64 a0_0, .int .i64 a0_1, .int .i64 a0_2, .int .i64 a0_3, .slice A0_4 l0_4.length c0_4]) (t := 26) ?hr ?_; (case hd => rfl); (case hg => rfl); (case hr => first | (go_simp; done) | (go_simp; rfl)); intro gb241 hg w10 hbox hb; have n0_ := zA (below_step (by repeat (first | (with_reducible first | exact HB.out | apply zC | apply zB | apply zF) | exact HB.out)) hb); have n1_ := zA (hbox); have n2_ := zA ((by rw [hg]; exact (zL (by repeat (first | (with_reducible first | exact HB.out | apply zC | apply zB | apply zF) | exact HB.out))) : w.heap.size ≤ gb241)); have n3_ := zA ((by rw [hg]; exact (zL (by repeat (first | (with_reducible first | exact HB.out | apply zC | apply zB | apply zF) | exact HB.out))) : w.heap.size ≤ gb241)); clear HB; have HB := n0_; have BK241 := n1_; have GW241 := n2_; have GE241 := n3_; clear n0_ n1_ n2_ n3_; clear hb hbox hg; have hcz11_0 : w10.cell? ⟨gb241, 0, none⟩ = some (.int .i64 a0_0) := (zK BK241.out 0).trans rfl; have hcz11_1 : w10.cell? ⟨gb241, 1, none⟩ = some (.int .i64 a0_1) := (zK BK241.out 1).trans rfl; have hcz11_2 : w10.cell? ⟨gb241, 2, none⟩ = some (.int .i64 a0_2) := (zK BK241.out 2).trans rfl; have hcz11_3 : w10.cell? ⟨gb241, 3, none⟩ = some (.int .i64 a0_3) := (zK BK241.out 3).trans rfl; have hcz11_4 : w10.cell? ⟨gb241, 4, none⟩ = some (.slice A0_4 l0_4.length c0_4) := (zK BK241.out 4).trans rfl; have hfz11_0 := zJ BK241.out 0; have hfz11_1 := zJ BK241.out 1; have hfz11_2 := zJ BK241.out 2; have hfz11_3 := zJ BK241.out 3; have hfz11_4 := zJ BK241.out 4) | ((with_reducible refine gate_callee (f := 52) rfl ?_); refine goesL_ (some 6) rfl rfl Try.func52 (by kernel_rfl) rfl #[.agg #[.int .i64 a0_0, .int .i64 a0_1, .int .i64 a0_2, .int .i64 a0_3, .slice A0_4 l0_4.length c0_4]] rfl (by (try simp only [zU, zV, zW]); first | done | rfl | (simp only [zR, zQ]; rfl)) ?_; (with_reducible refine (impl_FrameOk.calls a0_0 a0_1 a0_2 a0_3 _ _ l0_4 false _ ?side1 ?side2 A3.out).mono ?_); (case side1 => repeat (first | exact (Kd.C_below HR0_4.out HB.out) | (with_reducible refine yN ?_ _) | (with_reducible refine yL ?_ _) | (with_reducible refine yM ?_))); (case side2 => exact HC0_4.out); rintro e w12 ⟨rfl, hb⟩; refine ⟨_, rfl, ?_⟩; have n0_ := zA (blk_below (g := gb241) (o := .cells #[.int .i64 a0_0, .int .i64 a0_1, .int .i64 a0_2, .int .i64 a0_3, .slice A0_4 l0_4.length c0_4] 26 (0, 0)) (by (with_reducible repeat (first | refine zG ?_ _ | refine zH ?_ | refine zD ?_ _)); exact BK241.out) hb); have n1_ := zA (below_step (by repeat (first | (with_reducible first | exact HB.out | apply zC | apply zB | apply zF | refine zE ?_ GE241.out) | exact HB.out)) hb); clear BK241; clear HB; have BK241 := n0_; have HB := n1_; clear n0_ n1_; (try clear hb); (try clear hb2); (try clear hk); (try clear hi)))
  go_ret
  exact ⟨by first | rfl | (simp [errW_none, errW_some] <;> rfl) | (simp [*, errW_none, errW_some] <;> rfl), by repeat (first | (with_reducible first | exact HB.out | apply zC | apply zB | apply zF | refine zE ?_ GE241.out) | exact HB.out)⟩
end Go.Proofs.Ytilimpjcdeeaiaa.G


namespace Go.Proofs.Ytilimpjcdeeaiaa.G
open Go.RowKit Go.Proofs.YtilimpjcdeeaiaaW.PrintWords Go.Proofs.YtilimpjcdeeaiaaW.PrintLast Go.Proofs.YtilimpjcdeeaiaaW.PrintMore
attribute [local go_sem] max2_int min2_int max_two min_two max_three min_three max_four min_four   -- for this text's walks alone
def impl_Frame_areComps.l0 : Nat → List Int → List Int → Int → Int → Int → Int → Int → Int → List (S102) → Option (Bool)
 | 0, _, _, _, _, _, _, _, _, _ => none
 | k + 1, x1, x7, x8, x9, x245000, x245001, x245002, x245003, x245004 => if x9 < x8 then (if 0 ≤ x9 then (if x9 < (x7.length : Int) then ((impl_Frame_has.f x245000 x245001 x245002 x245003 x245004 (rd x7 x9)).bind fun t246 => (if t246 = true then (if x9 > 0 then (if 0 ≤ (wrap64 (x9 - 1)) then (if (wrap64 (x9 - 1)) < (x1.length : Int) then (if (rd x1 (wrap64 (x9 - 1))) ≥ (rd x7 x9) then (some false) else (impl_Frame_areComps.l0 k x1 x7 x8 (wrap64 (x9 + 1)) x245000 x245001 x245002 x245003 x245004)) else (none)) else (none)) else (impl_Frame_areComps.l0 k x1 x7 x8 (wrap64 (x9 + 1)) x245000 x245001 x245002 x245003 x245004)) else (some false))) else (none)) else (none)) else (some (decide ((x1.length : Int) > 0)))
def impl_Frame_areComps.f (k : Nat) (a0_0 : Int) (a0_1 : Int) (a0_2 : Int) (a0_3 : Int) (l0_4 : List (S102)) (l1 : List Int) : Option (Bool) := impl_Frame_areComps.l0 k l1 l1 (l1.length : Int) 0 a0_0 a0_1 a0_2 a0_3 l0_4
set_option maxHeartbeats 8000000 in
set_option maxRecDepth 100000 in
theorem impl_Frame_areComps.calls (k : Nat) (a0_0 : Int) (a0_1 : Int) (a0_2 : Int) (a0_3 : Int) (A0_4 : Option Addr) (c0_4 : Nat) (l0_4 : List (S102)) (A1 : Option Addr) (c1 : Nat) (l1 : List Int) (r : Bool) (w : World) (hr0_4 : Kd.C k102 w A0_4 l0_4.length l0_4) (hc0_4 : l0_4.length ≤ c0_4) (hr1 : Kd.C (Kd.int .i64) w A1 l1.length l1) (hc1 : l1.length ≤ c1) (h : impl_Frame_areComps.f k a0_0 a0_1 a0_2 a0_3 l0_4 l1 = some r) :
  Calls Try.prog 143 #[.agg #[.int .i64 a0_0, .int .i64 a0_1, .int .i64 a0_2, .int .i64 a0_3, .slice A0_4 l0_4.length c0_4], .slice A1 l1.length c1] w fun e w' => e = .returned (.bool r) ∧ Below w.heap.size w w' := by
 have hu26 := Try.underlying26
 have HR0_4 := zA hr0_4
 have HC0_4 := zA hc0_4
 clear hr0_4 hc0_4
 have HR1 := zA hr1
 have HC1 := zA hc1
 clear hr1 hc1
 have HB := zA (Below.refl w.heap.size w)
 have H : (impl_Frame_areComps.l0 k l1 l1 (l1.length : Int) 0 a0_0 a0_1 a0_2 a0_3 l0_4) = some r := h
 clear h
 have H' := zA H
 clear H
 go_enter Try.func143, Try.ntmps143
 go_wp2_with (first | ((with_reducible refine gate_dst (N := 2) rfl ?_); refine box_event ?hg (N := 2) ?hd (cs := #[.int .i64 a0_0, .int .i64 a0_1, .int .i64 a0_2, .int .i64 a0_3, .slice A0_4 l0_4.length c0_4]) (t := 26) ?hr ?_; (case hd => rfl); (case hg => rfl); (case hr => first | (go_simp; done) | (go_simp; rfl)); intro gb244 hg w3 hbox hb; have n0_ := zA (below_step (by repeat (first | (with_reducible first | exact HB.out | apply zC | apply zB | apply zF) | exact HB.out)) hb); have n1_ := zA (hbox); have n2_ := zA ((by rw [hg]; exact (zL (by repeat (first | (with_reducible first | exact HB.out | apply zC | apply zB | apply zF) | exact HB.out))) : w.heap.size ≤ gb244)); have n3_ := zA ((by rw [hg]; exact (zL (by repeat (first | (with_reducible first | exact HB.out | apply zC | apply zB | apply zF) | exact HB.out))) : w.heap.size ≤ gb244)); clear HB; have HB := n0_; have BK244 := n1_; have GW244 := n2_; have GE244 := n3_; clear n0_ n1_ n2_ n3_; clear hb hbox hg))
 go_loopg [9] k (fun kq v9 w' => ∃ (x9_1 : Int), v9 = .int .i64 x9_1 ∧ Aside0 (impl_Frame_areComps.l0 kq l1 l1 (l1.length : Int) x9_1 a0_0 a0_1 a0_2 a0_3 l0_4 = some r) ∧ Aside0 (kq ≤ k) ∧ Aside0 (w'.heap[gb244]? = some (.cells #[.int .i64 a0_0, .int .i64 a0_1, .int .i64 a0_2, .int .i64 a0_3, (.slice A0_4 l0_4.length c0_4)] 26 (0, 0))) ∧ Aside0 (Below w.heap.size w w'))
 case atStart => exact ⟨(0), (by first | rfl | (simp; done) | (simp [*]; done)), H', ⟨Nat.le_refl _⟩, ⟨by (with_reducible repeat (first | refine zG ?_ _ | refine zH ?_ | refine zD ?_ _)); exact BK244.out⟩, ⟨by repeat (first | (with_reducible first | exact HB.out | apply zC | apply zB | apply zF | refine zE ?_ GE244.out) | exact HB.out)⟩⟩
 case round =>
  clear H'
  try clear c1
  try clear p2
  obtain ⟨x9_1, rfl, HA, HK1, BK244, HB⟩ := hrel
  cases gk with
  | zero => exact absurd HA.out (by simp [impl_Frame_areComps.l0])
  | succ k1 =>
   have H := HA.out
   clear HA
   simp only [impl_Frame_areComps.l0] at H
   by_cases c4 : x9_1 < (l1.length : Int)
   ·rw [if_pos c4] at H
    have c4b0 : decide (x9_1 < (l1.length : Int)) = true := zT c4
    clear c4
    by_cases c5 : 0 ≤ x9_1
    ·rw [if_pos c5] at H
     have c5b0 : decide (0 ≤ x9_1) = true := zT c5
     clear c5
     by_cases c6 : x9_1 < (l1.length : Int)
     ·rw [if_pos c6] at H
      have c6b0 : decide (x9_1 < (l1.length : Int)) = true := zT c6
      clear c6
      replace H := Option.bind_eq_some_iff.mp H
      obtain ⟨t246, A70, H⟩ := H
      replace H : (if t246 = true then (if x9_1 > 0 then (if 0 ≤ (wrap64 (x9_1 - 1)) then (if (wrap64 (x9_1 - 1)) < (l1.length : Int) then (if (rd l1 (wrap64 (x9_1 - 1))) ≥ (rd l1 x9_1) then (some false) else (impl_Frame_areComps.l0 k1 l1 l1 (l1.length : Int) (wrap64 (x9_1 + 1)) a0_0 a0_1 a0_2 a0_3 l0_4)) else (none)) else (none)) else (impl_Frame_areComps.l0 k1 l1 l1 (l1.length : Int) (wrap64 (x9_1 + 1)) a0_0 a0_1 a0_2 a0_3 l0_4)) else (some false)) = some r := H
      have A7 := zA A70
      clear A70
      by_cases c8 : t246 = true
      ·subst c8
       have H1 : (if x9_1 > 0 then (if 0 ≤ (wrap64 (x9_1 - 1)) then (if (wrap64 (x9_1 - 1)) < (l1.length : Int) then (if (rd l1 (wrap64 (x9_1 - 1))) ≥ (rd l1 x9_1) then (some false) else (impl_Frame_areComps.l0 k1 l1 l1 (l1.length : Int) (wrap64 (x9_1 + 1)) a0_0 a0_1 a0_2 a0_3 l0_4)) else (none)) else (none)) else (impl_Frame_areComps.l0 k1 l1 l1 (l1.length : Int) (wrap64 (x9_1 + 1)) a0_0 a0_1 a0_2 a0_3 l0_4)) = some r := by rw [if_pos rfl] at H; exact H
       clear H
       have H := H1
       clear H1
       by_cases c9 : x9_1 > 0
       ·rw [if_pos c9] at H
        have c9b0 : decide (0 < x9_1) = true := zT c9
        clear c9
        obtain ⟨ji10, hji10⟩ : ∃ j_ : Int, (wrap64 (x9_1 - 1)) = j_ := ⟨_, rfl⟩
        replace H : (if 0 ≤ (ji10) then (if (ji10) < (l1.length : Int) then (if (rd l1 (ji10)) ≥ (rd l1 x9_1) then (some false) else (impl_Frame_areComps.l0 k1 l1 l1 (l1.length : Int) (wrap64 (x9_1 + 1)) a0_0 a0_1 a0_2 a0_3 l0_4)) else (none)) else (none)) = some r := by first | (rw [hji10] at H; exact H) | (simp only [hji10] at H ⊢; exact H)
        (try rw [hji10] at A7)
        have hji10w : (IntKind.i64.wrap (x9_1 - 1)) = ji10 := (i64_w _).trans hji10
        by_cases c11 : 0 ≤ (ji10)
        ·rw [if_pos c11] at H
         have c11b0 : decide (0 ≤ (ji10)) = true := zT c11
         clear c11
         by_cases c12 : (ji10) < (l1.length : Int)
         ·rw [if_pos c12] at H
          have c12b0 : decide ((ji10) < (l1.length : Int)) = true := zT c12
          clear c12
          by_cases c13 : (rd l1 (ji10)) ≥ (rd l1 x9_1)
          ·rw [if_pos c13] at H
           have c13b0 : decide ((rd l1 x9_1) ≤ (rd l1 (ji10))) = true := zT c13
           clear c13
           obtain rfl := Option.some.inj H
           have p245 : 0 ≤ (x9_1 : Int) := zI (by first | (with_reducible assumption) | assumption)
           have q245 : x9_1 < (l1.length : Int) := zI (by first | (with_reducible assumption) | assumption)
           obtain ⟨ad245, e245, hx245_0⟩ := Kd.at_int HR1.out x9_1 p245 q245
           cases e245
           replace hx245_0 := (HB.out.cell (World.block_lt_of_cell? w _ hx245_0)).trans hx245_0
           replace p245 := eq_true p245
           replace q245 := eq_true q245
           have hcz14_0 : wr.cell? ⟨gb244, 0, none⟩ = some (.int .i64 a0_0) := (zK BK244.out 0).trans rfl
           have hcz14_1 : wr.cell? ⟨gb244, 1, none⟩ = some (.int .i64 a0_1) := (zK BK244.out 1).trans rfl
           have hcz14_2 : wr.cell? ⟨gb244, 2, none⟩ = some (.int .i64 a0_2) := (zK BK244.out 2).trans rfl
           have hcz14_3 : wr.cell? ⟨gb244, 3, none⟩ = some (.int .i64 a0_3) := (zK BK244.out 3).trans rfl
           have hcz14_4 : wr.cell? ⟨gb244, 4, none⟩ = some (.slice A0_4 l0_4.length c0_4) := (zK BK244.out 4).trans rfl
           have hfz14_0 := zJ BK244.out 0
           have hfz14_1 := zJ BK244.out 1
           have hfz14_2 := zJ BK244.out 2
           have hfz14_3 := zJ BK244.out 3
           have hfz14_4 := zJ BK244.out 4
           go_wp2_with (first | ((with_reducible refine gate_callee (f := 119) rfl ?_); refine goesL_ (some 16) rfl rfl Try.func119 (by kernel_rfl) rfl #[.agg #[.int .i64 a0_0, .int .i64 a0_1, .int .i64 a0_2, .int .i64 a0_3, .slice A0_4 l0_4.length c0_4], .int .i64 (rd l1 x9_1)] rfl (by (try simp only [zU, zV, zW]); first | done | rfl | (simp only [zR, zQ]; rfl)) ?_; (with_reducible refine (impl_Frame_has.calls a0_0 a0_1 a0_2 a0_3 _ _ l0_4 (rd l1 x9_1) true _ ?side1 ?side2 A7.out).mono ?_); (case side1 => repeat (first | exact (Kd.C_below HR0_4.out HB.out) | (with_reducible refine yN ?_ _) | (with_reducible refine yL ?_ _) | (with_reducible refine yM ?_))); (case side2 => exact HC0_4.out); rintro e w15 ⟨rfl, hb⟩; refine ⟨_, rfl, ?_⟩; have n0_ := zA (blk_below (g := gb244) (o := .cells #[.int .i64 a0_0, .int .i64 a0_1, .int .i64 a0_2, .int .i64 a0_3, .slice A0_4 l0_4.length c0_4] 26 (0, 0)) (by (with_reducible repeat (first | refine zG ?_ _ | refine zH ?_ | refine zD ?_ _)); exact BK244.out) hb); have n1_ := zA (below_step (by repeat (first | (with_reducible first | exact HB.out | apply zC | apply zB | apply zF | refine zE ?_ GE244.out) | exact HB.out)) hb); clear BK244; clear HB; have BK244 := n0_; have HB := n1_; clear n0_ n1_; (try clear hb); (try clear hb2); (try clear hk); (try clear hi); have p247 : 0 ≤ ((ji10) : Int) := zI (by first | (with_reducible assumption) | assumption); have q247 : (ji10) < (l1.length : Int) := zI (by first | (with_reducible assumption) | assumption); obtain ⟨ad247, e247, hx247_0⟩ := Kd.at_int HR1.out (ji10) p247 q247; obtain rfl : ad245 = ad247 := (by injection e247); replace hx247_0 := (HB.out.cell (World.block_lt_of_cell? w _ hx247_0)).trans hx247_0; replace p247 := eq_true p247; replace q247 := eq_true q247))
           go_ret
           exact ⟨by first | rfl | (simp [errW_none, errW_some] <;> rfl) | (simp only [← hji10]; first | rfl | (simp [errW_none, errW_some] <;> rfl)) | (simp [*, errW_none, errW_some] <;> rfl), by repeat (first | (with_reducible first | exact HB.out | apply zC | apply zB | apply zF | refine zE ?_ GE244.out) | exact HB.out)⟩
          ·rw [if_neg c13] at H
           have c13b0 : decide ((rd l1 x9_1) ≤ (rd l1 (ji10))) = false := decide_eq_false c13
           clear c13
           have H' := zA H
           clear H
           have p245 : 0 ≤ (x9_1 : Int) := zI (by first | (with_reducible assumption) | assumption)
           have q245 : x9_1 < (l1.length : Int) := zI (by first | (with_reducible assumption) | assumption)
           obtain ⟨ad245, e245, hx245_0⟩ := Kd.at_int HR1.out x9_1 p245 q245
           cases e245
           replace hx245_0 := (HB.out.cell (World.block_lt_of_cell? w _ hx245_0)).trans hx245_0
           replace p245 := eq_true p245
           replace q245 := eq_true q245
           have hcz16_0 : wr.cell? ⟨gb244, 0, none⟩ = some (.int .i64 a0_0) := (zK BK244.out 0).trans rfl
           have hcz16_1 : wr.cell? ⟨gb244, 1, none⟩ = some (.int .i64 a0_1) := (zK BK244.out 1).trans rfl
           have hcz16_2 : wr.cell? ⟨gb244, 2, none⟩ = some (.int .i64 a0_2) := (zK BK244.out 2).trans rfl
           have hcz16_3 : wr.cell? ⟨gb244, 3, none⟩ = some (.int .i64 a0_3) := (zK BK244.out 3).trans rfl
           have hcz16_4 : wr.cell? ⟨gb244, 4, none⟩ = some (.slice A0_4 l0_4.length c0_4) := (zK BK244.out 4).trans rfl
           have hfz16_0 := zJ BK244.out 0
           have hfz16_1 := zJ BK244.out 1
           have hfz16_2 := zJ BK244.out 2
           have hfz16_3 := zJ BK244.out 3
           have hfz16_4 := zJ BK244.out 4
           go_wp2_with (first | ((with_reducible refine gate_callee (f := 119) rfl ?_); refine goesL_ (some 16) rfl rfl Try.func119 (by kernel_rfl) rfl #[.agg #[.int .i64 a0_0, .int .i64 a0_1, .int .i64 a0_2, .int .i64 a0_3, .slice A0_4 l0_4.length c0_4], .int .i64 (rd l1 x9_1)] rfl (by (try simp only [zU, zV, zW]); first | done | rfl | (simp only [zR, zQ]; rfl)) ?_; (with_reducible refine (impl_Frame_has.calls a0_0 a0_1 a0_2 a0_3 _ _ l0_4 (rd l1 x9_1) true _ ?side1 ?side2 A7.out).mono ?_); (case side1 => repeat (first | exact (Kd.C_below HR0_4.out HB.out) | (with_reducible refine yN ?_ _) | (with_reducible refine yL ?_ _) | (with_reducible refine yM ?_))); (case side2 => exact HC0_4.out); rintro e w17 ⟨rfl, hb⟩; refine ⟨_, rfl, ?_⟩; have n0_ := zA (blk_below (g := gb244) (o := .cells #[.int .i64 a0_0, .int .i64 a0_1, .int .i64 a0_2, .int .i64 a0_3, .slice A0_4 l0_4.length c0_4] 26 (0, 0)) (by (with_reducible repeat (first | refine zG ?_ _ | refine zH ?_ | refine zD ?_ _)); exact BK244.out) hb); have n1_ := zA (below_step (by repeat (first | (with_reducible first | exact HB.out | apply zC | apply zB | apply zF | refine zE ?_ GE244.out) | exact HB.out)) hb); clear BK244; clear HB; have BK244 := n0_; have HB := n1_; clear n0_ n1_; (try clear hb); (try clear hb2); (try clear hk); (try clear hi); have p247 : 0 ≤ ((ji10) : Int) := zI (by first | (with_reducible assumption) | assumption); have q247 : (ji10) < (l1.length : Int) := zI (by first | (with_reducible assumption) | assumption); obtain ⟨ad247, e247, hx247_0⟩ := Kd.at_int HR1.out (ji10) p247 q247; obtain rfl : ad245 = ad247 := (by injection e247); replace hx247_0 := (HB.out.cell (World.block_lt_of_cell? w _ hx247_0)).trans hx247_0; replace p247 := eq_true p247; replace q247 := eq_true q247))
           go_roundg k1
           case measure => have := HK1.out; omega
           case rel => exact ⟨(wrap64 (x9_1 + 1)), (by first | rfl | (simp; done) | (simp [*]; done)), H', ⟨by have := HK1.out; omega⟩, ⟨by (with_reducible repeat (first | refine zG ?_ _ | refine zH ?_ | refine zD ?_ _)); exact BK244.out⟩, ⟨by repeat (first | (with_reducible first | exact HB.out | apply zC | apply zB | apply zF | refine zE ?_ GE244.out) | exact HB.out)⟩⟩
         ·rw [if_neg c12] at H
          exact absurd H (by simp)
        ·rw [if_neg c11] at H
         exact absurd H (by simp)
       ·rw [if_neg c9] at H
        have c9b0 : decide (0 < x9_1) = false := decide_eq_false c9
        clear c9
        have H' := zA H
        clear H
        have p245 : 0 ≤ (x9_1 : Int) := zI (by first | (with_reducible assumption) | assumption)
        have q245 : x9_1 < (l1.length : Int) := zI (by first | (with_reducible assumption) | assumption)
        obtain ⟨ad245, e245, hx245_0⟩ := Kd.at_int HR1.out x9_1 p245 q245
        cases e245
        replace hx245_0 := (HB.out.cell (World.block_lt_of_cell? w _ hx245_0)).trans hx245_0
        replace p245 := eq_true p245
        replace q245 := eq_true q245
        have hcz18_0 : wr.cell? ⟨gb244, 0, none⟩ = some (.int .i64 a0_0) := (zK BK244.out 0).trans rfl
        have hcz18_1 : wr.cell? ⟨gb244, 1, none⟩ = some (.int .i64 a0_1) := (zK BK244.out 1).trans rfl
        have hcz18_2 : wr.cell? ⟨gb244, 2, none⟩ = some (.int .i64 a0_2) := (zK BK244.out 2).trans rfl
        have hcz18_3 : wr.cell? ⟨gb244, 3, none⟩ = some (.int .i64 a0_3) := (zK BK244.out 3).trans rfl
        have hcz18_4 : wr.cell? ⟨gb244, 4, none⟩ = some (.slice A0_4 l0_4.length c0_4) := (zK BK244.out 4).trans rfl
        have hfz18_0 := zJ BK244.out 0
        have hfz18_1 := zJ BK244.out 1
        have hfz18_2 := zJ BK244.out 2
        have hfz18_3 := zJ BK244.out 3
        have hfz18_4 := zJ BK244.out 4
        go_wp2_with (first | ((with_reducible refine gate_callee (f := 119) rfl ?_); refine goesL_ (some 16) rfl rfl Try.func119 (by kernel_rfl) rfl #[.agg #[.int .i64 a0_0, .int .i64 a0_1, .int .i64 a0_2, .int .i64 a0_3, .slice A0_4 l0_4.length c0_4], .int .i64 (rd l1 x9_1)] rfl (by (try simp only [zU, zV, zW]); first | done | rfl | (simp only [zR, zQ]; rfl)) ?_; (with_reducible refine (impl_Frame_has.calls a0_0 a0_1 a0_2 a0_3 _ _ l0_4 (rd l1 x9_1) true _ ?side1 ?side2 A7.out).mono ?_); (case side1 => repeat (first | exact (Kd.C_below HR0_4.out HB.out) | (with_reducible refine yN ?_ _) | (with_reducible refine yL ?_ _) | (with_reducible refine yM ?_))); (case side2 => exact HC0_4.out); rintro e w19 ⟨rfl, hb⟩; refine ⟨_, rfl, ?_⟩; have n0_ := zA (blk_below (g := gb244) (o := .cells #[.int .i64 a0_0, .int .i64 a0_1, .int .i64 a0_2, .int .i64 a0_3, .slice A0_4 l0_4.length c0_4] 26 (0, 0)) (by (with_reducible repeat (first | refine zG ?_ _ | refine zH ?_ | refine zD ?_ _)); exact BK244.out) hb); have n1_ := zA (below_step (by repeat (first | (with_reducible first | exact HB.out | apply zC | apply zB | apply zF | refine zE ?_ GE244.out) | exact HB.out)) hb); clear BK244; clear HB; have BK244 := n0_; have HB := n1_; clear n0_ n1_; (try clear hb); (try clear hb2); (try clear hk); (try clear hi)))
        go_roundg k1
        case measure => have := HK1.out; omega
        case rel => exact ⟨(wrap64 (x9_1 + 1)), (by first | rfl | (simp; done) | (simp [*]; done)), H', ⟨by have := HK1.out; omega⟩, ⟨by (with_reducible repeat (first | refine zG ?_ _ | refine zH ?_ | refine zD ?_ _)); exact BK244.out⟩, ⟨by repeat (first | (with_reducible first | exact HB.out | apply zC | apply zB | apply zF | refine zE ?_ GE244.out) | exact HB.out)⟩⟩
      ·replace c8 := Bool.eq_false_iff.mpr c8
       subst c8
       have H1 : (some false) = some r := by rw [if_neg (show ¬ (false = true) by decide)] at H; exact H
       clear H
       have H := H1
       clear H1
       obtain rfl := Option.some.inj H
       have p245 : 0 ≤ (x9_1 : Int) := zI (by first | (with_reducible assumption) | assumption)
       have q245 : x9_1 < (l1.length : Int) := zI (by first | (with_reducible assumption) | assumption)
       obtain ⟨ad245, e245, hx245_0⟩ := Kd.at_int HR1.out x9_1 p245 q245
       cases e245
       replace hx245_0 := (HB.out.cell (World.block_lt_of_cell? w _ hx245_0)).trans hx245_0
       replace p245 := eq_true p245
       replace q245 := eq_true q245
       have hcz20_0 : wr.cell? ⟨gb244, 0, none⟩ = some (.int .i64 a0_0) := (zK BK244.out 0).trans rfl
       have hcz20_1 : wr.cell? ⟨gb244, 1, none⟩ = some (.int .i64 a0_1) := (zK BK244.out 1).trans rfl
       have hcz20_2 : wr.cell? ⟨gb244, 2, none⟩ = some (.int .i64 a0_2) := (zK BK244.out 2).trans rfl
       have hcz20_3 : wr.cell? ⟨gb244, 3, none⟩ = some (.int .i64 a0_3) := (zK BK244.out 3).trans rfl
       have hcz20_4 : wr.cell? ⟨gb244, 4, none⟩ = some (.slice A0_4 l0_4.length c0_4) := (zK BK244.out 4).trans rfl
       have hfz20_0 := zJ BK244.out 0
       have hfz20_1 := zJ BK244.out 1
       have hfz20_2 := zJ BK244.out 2
       have hfz20_3 := zJ BK244.out 3
       have hfz20_4 := zJ BK244.out 4
       go_wp2_with (first | ((with_reducible refine gate_callee (f := 119) rfl ?_); refine goesL_ (some 16) rfl rfl Try.func119 (by kernel_rfl) rfl #[.agg #[.int .i64 a0_0, .int .i64 a0_1, .int .i64 a0_2, .int .i64 a0_3, .slice A0_4 l0_4.length c0_4], .int .i64 (rd l1 x9_1)] rfl (by (try simp only [zU, zV, zW]); first | done | rfl | (simp only [zR, zQ]; rfl)) ?_; (with_reducible refine (impl_Frame_has.calls a0_0 a0_1 a0_2 a0_3 _ _ l0_4 (rd l1 x9_1) false _ ?side1 ?side2 A7.out).mono ?_); (case side1 => repeat (first | exact (Kd.C_below HR0_4.out HB.out) | (with_reducible refine yN ?_ _) | (with_reducible refine yL ?_ _) | (with_reducible refine yM ?_))); (case side2 => exact HC0_4.out); rintro e w21 ⟨rfl, hb⟩; refine ⟨_, rfl, ?_⟩; have n0_ := zA (blk_below (g := gb244) (o := .cells #[.int .i64 a0_0, .int .i64 a0_1, .int .i64 a0_2, .int .i64 a0_3, .slice A0_4 l0_4.length c0_4] 26 (0, 0)) (by (with_reducible repeat (first | refine zG ?_ _ | refine zH ?_ | refine zD ?_ _)); exact BK244.out) hb); have n1_ := zA (below_step (by repeat (first | (with_reducible first | exact HB.out | apply zC | apply zB | apply zF | refine zE ?_ GE244.out) | exact HB.out)) hb); clear BK244; clear HB; have BK244 := n0_; have HB := n1_; clear n0_ n1_; (try clear hb); (try clear hb2); (try clear hk); (try clear hi)))
       go_ret
       exact ⟨by first | rfl | (simp [errW_none, errW_some] <;> rfl) | (simp [*, errW_none, errW_some] <;> rfl), by repeat (first | (with_reducible first | exact HB.out | apply zC | apply zB | apply zF | refine zE ?_ GE244.out) | exact HB.out)⟩
     ·rw [if_neg c6] at H
      exact absurd H (by simp)
    ·rw [if_neg c5] at H
     exact absurd H (by simp)
   ·rw [if_neg c4] at H
    have c4b0 : decide (x9_1 < (l1.length : Int)) = false := decide_eq_false c4
    clear c4
    obtain rfl := Option.some.inj H
    go_wp2
    go_ret
    exact ⟨by first | rfl | (simp [errW_none, errW_some] <;> rfl) | (simp [*, errW_none, errW_some] <;> rfl), by repeat (first | (with_reducible first | exact HB.out | apply zC | apply zB | apply zF | refine zE ?_ GE244.out) | exact HB.out)⟩
end Go.Proofs.Ytilimpjcdeeaiaa.G


namespace Go.Proofs.Ytilimpjcdeeaiaa.G
open Go.RowKit Go.Proofs.YtilimpjcdeeaiaaW.PrintWords Go.Proofs.YtilimpjcdeeaiaaW.PrintLast Go.Proofs.YtilimpjcdeeaiaaW.PrintMore
attribute [local go_sem] max2_int min2_int max_two min_two max_three min_three max_four min_four   -- for this text's walks alone
def impl_Scan_isPass.f (l0_0 : List Int) (a0_1 : Int) (a0_2 : Int) (a0_3 : Int) (a0_4 : Int) : Option (Bool) := (impl_within.f a0_2 0 63).bind fun t249 => (if t249 = true then ((impl_within.f a0_1 0 a0_2).bind fun t250 => (if t250 = true then ((impl_within.f a0_4 0 13).bind fun t251 => (if t251 = true then (if a0_3 = 0 then (some true) else (some (a0_3 == (wrap64 (a0_4 + 1))))) else (some false))) else (some false))) else (some false))
set_option maxHeartbeats 8000000 in
set_option maxRecDepth 100000 in
theorem impl_Scan_isPass.calls (A0_0 : Option Addr) (c0_0 : Nat) (l0_0 : List Int) (a0_1 : Int) (a0_2 : Int) (a0_3 : Int) (a0_4 : Int) (r : Bool) (w : World) (hr0_0 : Kd.C (Kd.int .i64) w A0_0 l0_0.length l0_0) (hc0_0 : l0_0.length ≤ c0_0) (h : impl_Scan_isPass.f l0_0 a0_1 a0_2 a0_3 a0_4 = some r) :
  Calls Try.prog 144 #[.agg #[.slice A0_0 l0_0.length c0_0, .int .i64 a0_1, .int .i64 a0_2, .int .i64 a0_3, .int .i64 a0_4]] w fun e w' => e = .returned (.bool r) ∧ Below w.heap.size w w' := by
 have hu38 := Try.underlying38
 have HR0_0 := zA hr0_0
 have HC0_0 := zA hc0_0
 clear hr0_0 hc0_0
 have HB := zA (Below.refl w.heap.size w)
 have H : ((impl_within.f a0_2 0 63).bind fun t249 => (if t249 = true then ((impl_within.f a0_1 0 a0_2).bind fun t250 => (if t250 = true then ((impl_within.f a0_4 0 13).bind fun t251 => (if t251 = true then (if a0_3 = 0 then (some true) else (some (a0_3 == (wrap64 (a0_4 + 1))))) else (some false))) else (some false))) else (some false))) = some r := h
 clear h
 replace H := Option.bind_eq_some_iff.mp H
 obtain ⟨t249, A20, H⟩ := H
 replace H : (if t249 = true then ((impl_within.f a0_1 0 a0_2).bind fun t250 => (if t250 = true then ((impl_within.f a0_4 0 13).bind fun t251 => (if t251 = true then (if a0_3 = 0 then (some true) else (some (a0_3 == (wrap64 (a0_4 + 1))))) else (some false))) else (some false))) else (some false)) = some r := H
 have A2 := zA A20
 clear A20
 by_cases c3 : t249 = true
 ·subst c3
  have H1 : ((impl_within.f a0_1 0 a0_2).bind fun t250 => (if t250 = true then ((impl_within.f a0_4 0 13).bind fun t251 => (if t251 = true then (if a0_3 = 0 then (some true) else (some (a0_3 == (wrap64 (a0_4 + 1))))) else (some false))) else (some false))) = some r := by rw [if_pos rfl] at H; exact H
  clear H
  have H := H1
  clear H1
  replace H := Option.bind_eq_some_iff.mp H
  obtain ⟨t250, A40, H⟩ := H
  replace H : (if t250 = true then ((impl_within.f a0_4 0 13).bind fun t251 => (if t251 = true then (if a0_3 = 0 then (some true) else (some (a0_3 == (wrap64 (a0_4 + 1))))) else (some false))) else (some false)) = some r := H
  have A4 := zA A40
  clear A40
  by_cases c5 : t250 = true
  ·subst c5
   have H1 : ((impl_within.f a0_4 0 13).bind fun t251 => (if t251 = true then (if a0_3 = 0 then (some true) else (some (a0_3 == (wrap64 (a0_4 + 1))))) else (some false))) = some r := by rw [if_pos rfl] at H; exact H
   clear H
   have H := H1
   clear H1
   replace H := Option.bind_eq_some_iff.mp H
   obtain ⟨t251, A60, H⟩ := H
   replace H : (if t251 = true then (if a0_3 = 0 then (some true) else (some (a0_3 == (wrap64 (a0_4 + 1))))) else (some false)) = some r := H
   have A6 := zA A60
   clear A60
   by_cases c7 : t251 = true
   ·subst c7
    have H1 : (if a0_3 = 0 then (some true) else (some (a0_3 == (wrap64 (a0_4 + 1))))) = some r := by rw [if_pos rfl] at H; exact H
    clear H
    have H := H1
    clear H1
    by_cases c8 : a0_3 = 0
    ·rw [if_pos c8] at H
     have c8b0 : (a0_3 == 0) = true := beq_iff_eq.mpr c8
     have c8b1 : (a0_3 != 0) = false := bne_eq_false_iff_eq.mpr c8
     clear c8
     obtain rfl := Option.some.inj H
     go_enter Try.func144, Try.ntmps144
     go_wp2_with (first | ((with_reducible refine gate_dst (N := 1) rfl ?_); refine box_event ?hg (N := 1) ?hd (cs := #[.slice A0_0 l0_0.length c0_0, .int .i64 a0_1, .int .i64 a0_2, .int .i64 a0_3, .int .i64 a0_4]) (t := 38) ?hr ?_; (case hd => rfl); (case hg => rfl); (case hr => first | (go_simp; done) | (go_simp; rfl)); intro gb248 hg w9 hbox hb; have n0_ := zA (below_step (by repeat (first | (with_reducible first | exact HB.out | apply zC | apply zB | apply zF) | exact HB.out)) hb); have n1_ := zA (hbox); have n2_ := zA ((by rw [hg]; exact (zL (by repeat (first | (with_reducible first | exact HB.out | apply zC | apply zB | apply zF) | exact HB.out))) : w.heap.size ≤ gb248)); have n3_ := zA ((by rw [hg]; exact (zL (by repeat (first | (with_reducible first | exact HB.out | apply zC | apply zB | apply zF) | exact HB.out))) : w.heap.size ≤ gb248)); clear HB; have HB := n0_; have BK248 := n1_; have GW248 := n2_; have GE248 := n3_; clear n0_ n1_ n2_ n3_; clear hb hbox hg; have hcz10_0 : w9.cell? ⟨gb248, 0, none⟩ = some (.slice A0_0 l0_0.length c0_0) := (zK BK248.out 0).trans rfl; have hcz10_1 : w9.cell? ⟨gb248, 1, none⟩ = some (.int .i64 a0_1) := (zK BK248.out 1).trans rfl; have hcz10_2 : w9.cell? ⟨gb248, 2, none⟩ = some (.int .i64 a0_2) := (zK BK248.out 2).trans rfl; have hcz10_3 : w9.cell? ⟨gb248, 3, none⟩ = some (.int .i64 a0_3) := (zK BK248.out 3).trans rfl; have hcz10_4 : w9.cell? ⟨gb248, 4, none⟩ = some (.int .i64 a0_4) := (zK BK248.out 4).trans rfl; have hfz10_0 := zJ BK248.out 0; have hfz10_1 := zJ BK248.out 1; have hfz10_2 := zJ BK248.out 2; have hfz10_3 := zJ BK248.out 3; have hfz10_4 := zJ BK248.out 4) | ((with_reducible refine gate_callee (f := 53) rfl ?_); refine goesL_ (some 5) rfl rfl Try.func53 (by kernel_rfl) rfl #[.int .i64 a0_2, .int .i64 0, .int .i64 63] rfl (by (try simp only [zU, zV, zW]); first | done | rfl | (simp only [zR, zQ]; rfl)) ?_; (with_reducible refine (impl_within.calls a0_2 0 63 true _ A2.out).mono ?_); rintro e w' ⟨rfl, ⟨nd, rfl⟩⟩; refine ⟨_, rfl, ?_⟩) | (go_at_call 53; (with_reducible refine (impl_within.calls a0_1 0 a0_2 true _ A4.out).mono ?_); rintro e w' ⟨rfl, ⟨nd, rfl⟩⟩) | (go_at_call 53; (with_reducible refine (impl_within.calls a0_4 0 13 true _ A6.out).mono ?_); rintro e w' ⟨rfl, ⟨nd, rfl⟩⟩))
     go_ret
     exact ⟨by first | rfl | (simp [errW_none, errW_some] <;> rfl) | (simp [*, errW_none, errW_some] <;> rfl), by repeat (first | (with_reducible first | exact HB.out | apply zC | apply zB | apply zF | refine zE ?_ GE248.out) | exact HB.out)⟩
    ·rw [if_neg c8] at H
     have c8b0 : (a0_3 == 0) = false := beq_eq_false_iff_ne.mpr c8
     have c8b1 : (a0_3 != 0) = true := bne_iff_ne.mpr c8
     obtain rfl := Option.some.inj H
     go_enter Try.func144, Try.ntmps144
     go_wp2_with (first | ((with_reducible refine gate_dst (N := 1) rfl ?_); refine box_event ?hg (N := 1) ?hd (cs := #[.slice A0_0 l0_0.length c0_0, .int .i64 a0_1, .int .i64 a0_2, .int .i64 a0_3, .int .i64 a0_4]) (t := 38) ?hr ?_; (case hd => rfl); (case hg => rfl); (case hr => first | (go_simp; done) | (go_simp; rfl)); intro gb248 hg w11 hbox hb; have n0_ := zA (below_step (by repeat (first | (with_reducible first | exact HB.out | apply zC | apply zB | apply zF) | exact HB.out)) hb); have n1_ := zA (hbox); have n2_ := zA ((by rw [hg]; exact (zL (by repeat (first | (with_reducible first | exact HB.out | apply zC | apply zB | apply zF) | exact HB.out))) : w.heap.size ≤ gb248)); have n3_ := zA ((by rw [hg]; exact (zL (by repeat (first | (with_reducible first | exact HB.out | apply zC | apply zB | apply zF) | exact HB.out))) : w.heap.size ≤ gb248)); clear HB; have HB := n0_; have BK248 := n1_; have GW248 := n2_; have GE248 := n3_; clear n0_ n1_ n2_ n3_; clear hb hbox hg; have hcz12_0 : w11.cell? ⟨gb248, 0, none⟩ = some (.slice A0_0 l0_0.length c0_0) := (zK BK248.out 0).trans rfl; have hcz12_1 : w11.cell? ⟨gb248, 1, none⟩ = some (.int .i64 a0_1) := (zK BK248.out 1).trans rfl; have hcz12_2 : w11.cell? ⟨gb248, 2, none⟩ = some (.int .i64 a0_2) := (zK BK248.out 2).trans rfl; have hcz12_3 : w11.cell? ⟨gb248, 3, none⟩ = some (.int .i64 a0_3) := (zK BK248.out 3).trans rfl; have hcz12_4 : w11.cell? ⟨gb248, 4, none⟩ = some (.int .i64 a0_4) := (zK BK248.out 4).trans rfl; have hfz12_0 := zJ BK248.out 0; have hfz12_1 := zJ BK248.out 1; have hfz12_2 := zJ BK248.out 2; have hfz12_3 := zJ BK248.out 3; have hfz12_4 := zJ BK248.out 4) | ((with_reducible refine gate_callee (f := 53) rfl ?_); refine goesL_ (some 5) rfl rfl Try.func53 (by kernel_rfl) rfl #[.int .i64 a0_2, .int .i64 0, .int .i64 63] rfl (by (try simp only [zU, zV, zW]); first | done | rfl | (simp only [zR, zQ]; rfl)) ?_; (with_reducible refine (impl_within.calls a0_2 0 63 true _ A2.out).mono ?_); rintro e w' ⟨rfl, ⟨nd, rfl⟩⟩; refine ⟨_, rfl, ?_⟩) | (go_at_call 53; (with_reducible refine (impl_within.calls a0_1 0 a0_2 true _ A4.out).mono ?_); rintro e w' ⟨rfl, ⟨nd, rfl⟩⟩) | (go_at_call 53; (with_reducible refine (impl_within.calls a0_4 0 13 true _ A6.out).mono ?_); rintro e w' ⟨rfl, ⟨nd, rfl⟩⟩))
     go_ret
     exact ⟨by first | rfl | (simp [errW_none, errW_some] <;> rfl) | (simp [*, errW_none, errW_some] <;> rfl), by repeat (first | (with_reducible first | exact HB.out | apply zC | apply zB | apply zF | refine zE ?_ GE248.out) | exact HB.out)⟩
   ·replace c7 := Bool.eq_false_iff.mpr c7
    subst c7
    have H1 : (some false) = some r := by rw [if_neg (show ¬ (false = true) by decide)] at H; exact H
    clear H
    have H := H1
    clear H1
    obtain rfl := Option.some.inj H
    go_enter Try.func144, Try.ntmps144
    go_wp2_with (first | ((with_reducible refine gate_dst (N := 1) rfl ?_); refine box_event ?hg (N := 1) ?hd (cs := #[.slice A0_0 l0_0.length c0_0, .int .i64 a0_1, .int .i64 a0_2, .int .i64 a0_3, .int .i64 a0_4]) (t := 38) ?hr ?_; (case hd => rfl); (case hg => rfl); (case hr => first | (go_simp; done) | (go_simp; rfl)); intro gb248 hg w13 hbox hb; have n0_ := zA (below_step (by repeat (first | (with_reducible first | exact HB.out | apply zC | apply zB | apply zF) | exact HB.out)) hb); have n1_ := zA (hbox); have n2_ := zA ((by rw [hg]; exact (zL (by repeat (first | (with_reducible first | exact HB.out | apply zC | apply zB | apply zF) | exact HB.out))) : w.heap.size ≤ gb248)); have n3_ := zA ((by rw [hg]; exact (zL (by repeat (first | (with_reducible first | exact HB.out | apply zC | apply zB | apply zF) | exact HB.out))) : w.heap.size ≤ gb248)); clear HB; have HB := n0_; have BK248 := n1_; have GW248 := n2_; have GE248 := n3_; clear n0_ n1_ n2_ n3_; clear hb hbox hg; have hcz14_0 : w13.cell? ⟨gb248, 0, none⟩ = some (.slice A0_0 l0_0.length c0_0) := (zK BK248.out 0).trans rfl; have hcz14_1 : w13.cell? ⟨gb248, 1, none⟩ = some (.int .i64 a0_1) := (zK BK248.out 1).trans rfl; have hcz14_2 : w13.cell? ⟨gb248, 2, none⟩ = some (.int .i64 a0_2) := (zK BK248.out 2).trans rfl; have hcz14_3 : w13.cell? ⟨gb248, 3, none⟩ = some (.int .i64 a0_3) := (zK BK248.out 3).trans rfl; have hcz14_4 : w13.cell? ⟨gb248, 4, none⟩ = some (.int .i64 a0_4) := (zK BK248.out 4).trans rfl; have hfz14_0 := zJ BK248.out 0; have hfz14_1 := zJ BK248.out 1; have hfz14_2 := zJ BK248.out 2; have hfz14_3 := zJ BK248.out 3; have hfz14_4 := zJ BK248.out 4) | ((with_reducible refine gate_callee (f := 53) rfl ?_); refine goesL_ (some 5) rfl rfl Try.func53 (by kernel_rfl) rfl #[.int .i64 a0_2, .int .i64 0, .int .i64 63] rfl (by (try simp only [zU, zV, zW]); first | done | rfl | (simp only [zR, zQ]; rfl)) ?_; (with_reducible refine (impl_within.calls a0_2 0 63 true _ A2.out).mono ?_); rintro e w' ⟨rfl, ⟨nd, rfl⟩⟩; refine ⟨_, rfl, ?_⟩) | (go_at_call 53; (with_reducible refine (impl_within.calls a0_1 0 a0_2 true _ A4.out).mono ?_); rintro e w' ⟨rfl, ⟨nd, rfl⟩⟩) | (go_at_call 53; (with_reducible refine (impl_within.calls a0_4 0 13 false _ A6.out).mono ?_); rintro e w' ⟨rfl, ⟨nd, rfl⟩⟩))
    go_ret
    exact ⟨by first | rfl | (simp [errW_none, errW_some] <;> rfl) | (simp [*, errW_none, errW_some] <;> rfl), by repeat (first | (with_reducible first | exact HB.out | apply zC | apply zB | apply zF | refine zE ?_ GE248.out) | exact HB.out)⟩
  ·replace c5 := Bool.eq_false_iff.mpr c5
   subst c5
   have H1 : (some false) = some r := by rw [if_neg (show ¬ (false = true) by decide)] at H; exact H
   clear H
   have H := H1
   clear H1
   obtain rfl := Option.some.inj H
   go_enter Try.func144, Try.ntmps144
   go_wp2_with (first | ((with_reducible refine gate_dst (N := 1) rfl ?_); refine box_event ?hg (N := 1) ?hd (cs := #[.slice A0_0 l0_0.length c0_0, .int .i64 a0_1, .int .i64 a0_2, .int .i64 a0_3, .int .i64 a0_4]) (t := 38) ?hr ?_; (case hd => rfl); (case hg => rfl); (case hr => first | (go_simp; done) | (go_simp; rfl)); intro gb248 hg w15 hbox hb; have n0_ := zA (below_step (by repeat (first | (with_reducible first | exact HB.out | apply zC | apply zB | apply zF) | exact HB.out)) hb); have n1_ := zA (hbox); have n2_ := zA ((by rw [hg]; exact (zL (by repeat (first | (with_reducible first | exact HB.out | apply zC | apply zB | apply zF) | exact HB.out))) : w.heap.size ≤ gb248)); have n3_ := zA ((by rw [hg]; exact (zL (by repeat (first | (with_reducible first | exact HB.out | apply zC | apply zB | apply zF) | exact HB.out))) : w.heap.size ≤ gb248)); clear HB; have HB := n0_; have BK248 := n1_; have GW248 := n2_; have GE248 := n3_; clear n0_ n1_ n2_ n3_; clear hb hbox hg; have hcz16_0 : w15.cell? ⟨gb248, 0, none⟩ = some (.slice A0_0 l0_0.length c0_0) := (zK BK248.out 0).trans rfl; have hcz16_1 : w15.cell? ⟨gb248, 1, none⟩ = some (.int .i64 a0_1) := (zK BK248.out 1).trans rfl; have hcz16_2 : w15.cell? ⟨gb248, 2, none⟩ = some (.int .i64 a0_2) := (zK BK248.out 2).trans rfl; have hcz16_3 : w15.cell? ⟨gb248, 3, none⟩ = some (.int .i64 a0_3) := (zK BK248.out 3).trans rfl; have hcz16_4 : w15.cell? ⟨gb248, 4, none⟩ = some (.int .i64 a0_4) := (zK BK248.out 4).trans rfl; have hfz16_0 := zJ BK248.out 0; have hfz16_1 := zJ BK248.out 1; have hfz16_2 := zJ BK248.out 2; have hfz16_3 := zJ BK248.out 3; have hfz16_4 := zJ BK248.out 4) | ((with_reducible refine gate_callee (f := 53) rfl ?_); refine goesL_ (some 5) rfl rfl Try.func53 (by kernel_rfl) rfl #[.int .i64 a0_2, .int .i64 0, .int .i64 63] rfl (by (try simp only [zU, zV, zW]); first | done | rfl | (simp only [zR, zQ]; rfl)) ?_; (with_reducible refine (impl_within.calls a0_2 0 63 true _ A2.out).mono ?_); rintro e w' ⟨rfl, ⟨nd, rfl⟩⟩; refine ⟨_, rfl, ?_⟩) | (go_at_call 53; (with_reducible refine (impl_within.calls a0_1 0 a0_2 false _ A4.out).mono ?_); rintro e w' ⟨rfl, ⟨nd, rfl⟩⟩))
   go_ret
   exact ⟨by first | rfl | (simp [errW_none, errW_some] <;> rfl) | (simp [*, errW_none, errW_some] <;> rfl), by repeat (first | (with_reducible first | exact HB.out | apply zC | apply zB | apply zF | refine zE ?_ GE248.out) | exact HB.out)⟩
 ·replace c3 := Bool.eq_false_iff.mpr c3
  subst c3
  have H1 : (some false) = some r := by rw [if_neg (show ¬ (false = true) by decide)] at H; exact H
  clear H
  have H := H1
  clear H1
  obtain rfl := Option.some.inj H
  go_enter Try.func144, Try.ntmps144
  go_wp2_with (first | ((with_reducible refine gate_dst (N := 1) rfl ?_); refine box_event ?hg (N := 1) ?hd (cs := #[.slice A0_0 l0_0.length c0_0, .int .i64 a0_1, .int .i64 a0_2, .int .i64 a0_3, .int .i64 a0_4]) (t := 38) ?hr ?_; (case hd => rfl); (case hg => rfl); (case hr => first | (go_simp; done) | (go_simp; rfl)); intro gb248 hg w17 hbox hb; have n0_ := zA (below_step (by repeat (first | (with_reducible first | exact HB.out | apply zC | apply zB | apply zF) | exact HB.out)) hb); have n1_ := zA (hbox); have n2_ := zA ((by rw [hg]; exact (zL (by repeat (first | (with_reducible first | exact HB.out | apply zC | apply zB | apply zF) | exact HB.out))) : w.heap.size ≤ gb248)); have n3_ := zA ((by rw [hg]; exact (zL (by repeat (first | (with_reducible first | exact HB.out | apply zC | apply zB | apply zF) | exact HB.out))) : w.heap.size ≤ gb248)); clear HB; have HB := n0_; have BK248 := n1_; have GW248 := n2_; have GE248 := n3_; clear n0_ n1_ n2_ n3_; clear hb hbox hg; have hcz18_0 : w17.cell? ⟨gb248, 0, none⟩ = some (.slice A0_0 l0_0.length c0_0) := (zK BK248.out 0).trans rfl; have hcz18_1 : w17.cell? ⟨gb248, 1, none⟩ = some (.int .i64 a0_1) := (zK BK248.out 1).trans rfl; have hcz18_2 : w17.cell? ⟨gb248, 2, none⟩ = some (.int .i64 a0_2) := (zK BK248.out 2).trans rfl; have hcz18_3 : w17.cell? ⟨gb248, 3, none⟩ = some (.int .i64 a0_3) := (zK BK248.out 3).trans rfl; have hcz18_4 : w17.cell? ⟨gb248, 4, none⟩ = some (.int .i64 a0_4) := (zK BK248.out 4).trans rfl; have hfz18_0 := zJ BK248.out 0; have hfz18_1 := zJ BK248.out 1; have hfz18_2 := zJ BK248.out 2; have hfz18_3 := zJ BK248.out 3; have hfz18_4 := zJ BK248.out 4) | ((with_reducible refine gate_callee (f := 53) rfl ?_); refine goesL_ (some 5) rfl rfl Try.func53 (by kernel_rfl) rfl #[.int .i64 a0_2, .int .i64 0, .int .i64 63] rfl (by (try simp only [zU, zV, zW]); first | done | rfl | (simp only [zR, zQ]; rfl)) ?_; (with_reducible refine (impl_within.calls a0_2 0 63 false _ A2.out).mono ?_); rintro e w' ⟨rfl, ⟨nd, rfl⟩⟩; refine ⟨_, rfl, ?_⟩))
  go_ret
  exact ⟨by first | rfl | (simp [errW_none, errW_some] <;> rfl) | (simp [*, errW_none, errW_some] <;> rfl), by repeat (first | (with_reducible first | exact HB.out | apply zC | apply zB | apply zF | refine zE ?_ GE248.out) | exact HB.out)⟩
end Go.Proofs.Ytilimpjcdeeaiaa.G


namespace Go.Proofs.Ytilimpjcdeeaiaa.G
open Go.RowKit Go.Proofs.YtilimpjcdeeaiaaW.PrintWords Go.Proofs.YtilimpjcdeeaiaaW.PrintLast Go.Proofs.YtilimpjcdeeaiaaW.PrintMore
attribute [local go_sem] max2_int min2_int max_two min_two max_three min_three max_four min_four   -- for this text's walks alone
def bits_Mul64.f (a0 : Int) (a1 : Int) : Option (Int × Int) := some (IntKind.u64.wrap ((IntKind.u64.wrap ((IntKind.u64.wrap ((a0 / 4294967296) * (a1 / 4294967296))) + ((IntKind.u64.wrap ((IntKind.u64.wrap ((a0 / 4294967296) * (Go.bits .and .u64 a1 4294967295))) + ((IntKind.u64.wrap ((Go.bits .and .u64 a0 4294967295) * (Go.bits .and .u64 a1 4294967295))) / 4294967296))) / 4294967296))) + ((IntKind.u64.wrap ((Go.bits .and .u64 (IntKind.u64.wrap ((IntKind.u64.wrap ((a0 / 4294967296) * (Go.bits .and .u64 a1 4294967295))) + ((IntKind.u64.wrap ((Go.bits .and .u64 a0 4294967295) * (Go.bits .and .u64 a1 4294967295))) / 4294967296))) 4294967295) + (IntKind.u64.wrap ((Go.bits .and .u64 a0 4294967295) * (a1 / 4294967296))))) / 4294967296)), IntKind.u64.wrap (a0 * a1))
set_option maxHeartbeats 8000000 in
set_option maxRecDepth 100000 in
theorem bits_Mul64.calls (a0 : Int) (a1 : Int) (r1 : Int) (r2 : Int) (w : World) (h : bits_Mul64.f a0 a1 = some (r1, r2)) :
  Calls Try.prog 166 #[.int .u64 a0, .int .u64 a1] w fun e w' => e = .returned (.tuple #[.int .u64 r1, .int .u64 r2]) ∧ Drawn0 w w' := by
 have H : (some (IntKind.u64.wrap ((IntKind.u64.wrap ((IntKind.u64.wrap ((a0 / 4294967296) * (a1 / 4294967296))) + ((IntKind.u64.wrap ((IntKind.u64.wrap ((a0 / 4294967296) * (Go.bits .and .u64 a1 4294967295))) + ((IntKind.u64.wrap ((Go.bits .and .u64 a0 4294967295) * (Go.bits .and .u64 a1 4294967295))) / 4294967296))) / 4294967296))) + ((IntKind.u64.wrap ((Go.bits .and .u64 (IntKind.u64.wrap ((IntKind.u64.wrap ((a0 / 4294967296) * (Go.bits .and .u64 a1 4294967295))) + ((IntKind.u64.wrap ((Go.bits .and .u64 a0 4294967295) * (Go.bits .and .u64 a1 4294967295))) / 4294967296))) 4294967295) + (IntKind.u64.wrap ((Go.bits .and .u64 a0 4294967295) * (a1 / 4294967296))))) / 4294967296)), IntKind.u64.wrap (a0 * a1))) = some (r1, r2) := h
 clear h
 simp only [Option.some.injEq, Prod.mk.injEq] at H
 obtain ⟨rfl, rfl⟩ := H
 go_enter Try.func166, Try.ntmps166
 go_wp2
 go_ret2
 exact ⟨by first | rfl | (simp; done) | (simp [*]; done), by repeat (first | exact Drawn0.refl _ | apply Drawn0.step)⟩
end Go.Proofs.Ytilimpjcdeeaiaa.G


namespace Go.Proofs.Ytilimpjcdeeaiaa.G
open Go.RowKit Go.Proofs.YtilimpjcdeeaiaaW.PrintWords Go.Proofs.YtilimpjcdeeaiaaW.PrintLast Go.Proofs.YtilimpjcdeeaiaaW.PrintMore
attribute [local go_sem] max2_int min2_int max_two min_two max_three min_three max_four min_four   -- for this text's walks alone
def bits_Mul.f (a0 : Int) (a1 : Int) : Option (Int × Int) := (bits_Mul64.f a0 a1).bind fun bt257 => (some (bt257.1, bt257.2))
set_option maxHeartbeats 8000000 in
set_option maxRecDepth 100000 in
theorem bits_Mul.calls (a0 : Int) (a1 : Int) (r1 : Int) (r2 : Int) (w : World) (h : bits_Mul.f a0 a1 = some (r1, r2)) :
  Calls Try.prog 160 #[.int .u64 a0, .int .u64 a1] w fun e w' => e = .returned (.tuple #[.int .u64 r1, .int .u64 r2]) ∧ Drawn0 w w' := by
 have H : ((bits_Mul64.f a0 a1).bind fun bt257 => (some (bt257.1, bt257.2))) = some (r1, r2) := h
 clear h
 replace H := Option.bind_eq_some_iff.mp H
 obtain ⟨⟨t257, t258⟩, A30, H⟩ := H
 replace H : (some (t257, t258)) = some (r1, r2) := H
 have A3 := zA A30
 clear A30
 simp only [Option.some.injEq, Prod.mk.injEq] at H
 obtain ⟨rfl, rfl⟩ := H
 go_enter Try.func160, Try.ntmps160
 go_wp2_with (first | ((with_reducible refine gate_callee (f := 166) rfl ?_); refine goesL_ (some 25) rfl rfl Try.func166 (by kernel_rfl) rfl #[.int .u64 a0, .int .u64 a1] rfl (by (try simp only [zU, zV, zW]); first | done | rfl | (simp only [zR, zQ]; rfl)) ?_; (with_reducible refine (bits_Mul64.calls a0 a1 t257 t258 _ A3.out).mono ?_); rintro e w' ⟨rfl, ⟨nd, rfl⟩⟩; refine ⟨_, rfl, ?_⟩))
 go_ret2
 exact ⟨by first | rfl | (simp; done) | (simp [*]; done), by repeat (first | exact Drawn0.refl _ | apply Drawn0.step)⟩
end Go.Proofs.Ytilimpjcdeeaiaa.G


namespace Go.Proofs.Ytilimpjcdeeaiaa.G
open Go.RowKit Go.Proofs.YtilimpjcdeeaiaaW.PrintWords Go.Proofs.YtilimpjcdeeaiaaW.PrintLast Go.Proofs.YtilimpjcdeeaiaaW.PrintMore
attribute [local go_sem] max2_int min2_int max_two min_two max_three min_three max_four min_four   -- for this text's walks alone
--import Derived.Laws.CopyOwn
--import Derived.Deep.RegionLaw
--import Derived.StillTailTactics
def repV (v : Int) (m : Nat) : List Value := List.replicate m (.int .i64 v) ++ List.replicate (64 - m) (.int .i64 0)
theorem rep_cuts (g m : Nat) (hm : m < 64) : (∀ W : World, (Instr.slice 36 (.slice (some ⟨g, 0, none⟩) 64 64) (some (.int .i64 (m : Int))) none none).run Try.prog W = .ok (.slice (some ⟨g, m, none⟩) (64 - m) (64 - m)) W) ∧
  (∀ W : World, (Instr.slice 36 (.slice (some ⟨g, 0, none⟩) 64 64) none (some (.int .i64 (m : Int))) none).run Try.prog W = .ok (.slice (some ⟨g, 0, none⟩) m 64) W) := by
 have hu : Try.prog.underlying 36 = some (.slice (Try.prog.elem 36)) := by kernel_rfl
 have hel : Try.prog.elem 36 = 3 := by kernel_rfl
 obtain ⟨i, hi, _, hsz, _⟩ := info_parts info3
 refine ⟨fun W => ?_, fun W => ?_⟩
 ·rw [run_slice_l W _ (some ⟨g, 0, none⟩) 64 64 hu .i64 (m : Int) (by omega) (by omega), hel]
  simp [sizeOf, typeInfo, hi, hsz, sliced, Result.andThen, Addr.add]
  split
  ·omega
  ·split
   ·rename_i h; rw [h]
   ·rfl
 ·rw [run_slice_h W _ (some ⟨g, 0, none⟩) 64 64 hu .i64 (m : Int) (by omega) (by omega), hel]
  simp [sizeOf, typeInfo, hi, hsz, sliced, Result.andThen, Addr.add]
theorem repV_len (v : Int) (m : Nat) (h : m ≤ 64) : (repV v m).length = 64 := by simp [repV]; omega
theorem repV_get (v : Int) (m j : Nat) (h : j < m) : (repV v m)[j]? = some (.int .i64 v) := by
 unfold repV
 rw [List.getElem?_append_left (by simp; exact h)]
 simp [h]
theorem repV_splice (v : Int) (m j : Nat) (h : m + j ≤ 64) : splice (repV v m) m (List.replicate j (.int .i64 v)) = repV v (m + j) := by
 unfold splice repV
 rw [List.take_append_of_le_length (by simp), List.take_of_length_le (by simp), List.drop_append]
 simp only [List.length_replicate, List.drop_replicate]
 rw [show m - (m + j) = 0 by omega, show 64 - m - (m + j - m) = 64 - (m + j) by omega, List.replicate_zero, List.nil_append, ← List.append_assoc, List.replicate_append_replicate]
set_option maxRecDepth 100000 in
set_option maxHeartbeats 1000000 in
theorem repeat64_calls (ax : Addr) (cx : Nat) (v : Int) (w : World) (hx : w.cell? ax = some (.int .i64 v)) (hcx : 1 ≤ cx) :
  Calls Try.prog 145 #[.slice (some ax) 1 cx, .int .i64 64] w fun e w' => ∃ v0_ : Value, e = .returned (v0_) ∧ Kd.R (Kd.int .i64) 3 w' w.heap.size (fun _ => True) v0_ (List.replicate 64 v) ∧ Below w.heap.size w w' := by
 have hb := World.block_lt_of_cell? w _ hx
 have hM := zA (show bits_Mul.f 1 64 = some (0, 64) by kernel_rfl)
 go_enter Try.func145, Try.ntmps145
 obtain ⟨i3, hi3, hz3, hsz3, hby3⟩ := info_parts info3
 have hmk : ∀ W : World, (Instr.makeSlice 36 (.int .i64 64) (.int .i64 64)).run Try.prog W = .ok (.slice (some ⟨W.heap.size, 0, none⟩) 64 64) (W.alloc (.cells (repV v 0).toArray 3)) := by
  intro W
  have h := run_make (P := Try.prog) W 36 3 i3 (.int .i64 0) Try.underlying36 hi3 hz3 .i64 .i64 64 64 (by omega) (by omega) (by rw [hby3]; omega) (by omega)
  rw [h, hsz3, show Int.toNat 64 * 1 = 64 from rfl, show madeCells (Value.int IntKind.i64 0).cells 64 = (repV v 0).toArray from by rw [show repV v 0 = List.replicate 64 (.int .i64 0) from rfl]; kernel_rfl]; rfl
 clear hi3 hz3 hsz3 hby3
 go_upto_region 7 with (first | (go_at_call 160; (with_reducible refine (bits_Mul.calls 1 64 0 64 _ hM.out).mono ?_); rintro e w' ⟨rfl, ⟨nd, rfl⟩⟩))
 clear hmk
 have k1 := blk_new (w.drewN nd) (Obj.cells (repV v 0).toArray 3)
 have hb1 := zC (zB (Below.refl w.heap.size w) nd) (Obj.cells (repV v 0).toArray 3)
 have hx1 : ((w.drewN nd).alloc (Obj.cells (repV v 0).toArray 3)).cell? ax = some (.int .i64 v) := (World.cell?_alloc_lt (w.drewN nd) (Obj.cells (repV v 0).toArray 3) ax hb).trans hx
 rw [show (w.drewN nd).heap.size = w.heap.size from rfl] at k1
 generalize (w.drewN nd).alloc (Obj.cells (repV v 0).toArray 3) = W1 at k1 hb1 hx1 ⊢
 have HB := zA hb1
 have HG := zA k1
 have HX := zA hx1
 have hu : Try.prog.underlying 36 = some (.slice 3) := Try.underlying36
 have hsz : (Try.prog.info? 3).map (·.size) = some 1 := by kernel_rfl
 have HU := zA hu
 have HSZ := zA hsz
 have HSRC := zA (show ∀ (j : Nat) (u : Value), [Value.int .i64 v][j]? = some u → W1.cell? (ax.add j) = some u from fun j u hj => by
  cases j with
  | zero =>
   simp at hj
   subst hj
   simpa [Addr.add] using hx1
  | succ j => simp at hj)
 clear hb1 k1 hx1 hu hsz hb hx
 go_wp2_with (first | ((refine wpList_copy_splice rfl (.tmp 31) (.tmp 32) 36 36 rfl 3 HU.out HSZ.out (some ⟨w.heap.size, 0, none⟩) (some ax) 64 64 1 cx rfl rfl w.heap.size 0 (repV v 0) 3 HG.out [.int .i64 v] rfl (fun _ => ⟨rfl, ax, rfl, HSRC.out⟩) (by simp [repV]) (by intro u hu; simp at hu; subst hu; rfl) w.heap.size w HB.out (Nat.le_refl _) ?_); intro w4 hg4 hb4; have HG4 := zA (show w4.heap[w.heap.size]? = some (.cells (repV v 1).toArray 3 (0, 0)) from hg4); have HB4 := zA hb4; clear hg4 hb4))
 clear HG HB
 go_loopw [8] (fun v8 w' => ∃ m : Nat, v8 = .int .i64 m ∧ 1 ≤ m ∧ m ≤ 64 ∧ Aside0 (w'.heap[w.heap.size]? = some (.cells (repV v m).toArray 3 (0, 0))) ∧ Aside0 (Below w.heap.size w w')) (fun v8 w' => 64 - (intOf v8).toNat)
 case atStart => exact ⟨1, rfl, by omega, by omega, HG4, HB4⟩
 case round =>
  clear HG4 HB4
  obtain ⟨m, rfl, m1, m64, HG, HB⟩ := hrel
  by_cases hlt : m < 64
  ·obtain ⟨hc1, hc2⟩ := rep_cuts w.heap.size m hlt
   obtain ⟨q, hq⟩ : ∃ q, q = min m (64 - m) := ⟨_, rfl⟩
   have q1 : 1 ≤ q := by omega
   have q2 : m + q ≤ 64 := by omega
   have hs1 : wrap64 ((m : Int) + (q : Int)) = ((m + q : Nat) : Int) := by rw [wrap_in _ (by omega) (by omega)]; omega
   have hs2 : IntKind.i64.wrap ((m : Int) + (q : Int)) = ((m + q : Nat) : Int) := (i64_w _).trans hs1
   have HCP := zA (show ∀ (j : Nat) (u : Value), (List.replicate q (Value.int .i64 v))[j]? = some u → wr.drew.cell? ((⟨w.heap.size, 0, none⟩ : Addr).add j) = some u from fun j u hj => by
    obtain ⟨hj1, hj2⟩ := List.getElem?_eq_some_iff.1 hj
    rw [List.length_replicate] at hj1
    rw [List.getElem_replicate] at hj2
    subst hj2
    have h2 := (zK (zH HG.out) j).trans (show (repV v m).toArray[j]? = some (Value.int .i64 v) from (List.getElem?_toArray).trans (repV_get v m j (by omega)))
    rw [show (⟨w.heap.size, 0, none⟩ : Addr).add j = ⟨w.heap.size, j, none⟩ from by cases j <;> simp [Addr.add]]
    exact h2)
   have HN := zA (show (List.replicate q (Value.int .i64 v)).length = Nat.min m (64 - m) by rw [List.length_replicate]; exact hq)
   have HF := zA (show m + (List.replicate q (Value.int .i64 v)).length ≤ (repV v m).length by rw [List.length_replicate, repV_len v m m64]; exact q2)
   clear hq
   have HG2 := zA (show wr.drew.heap[w.heap.size]? = some (.cells (repV v m).toArray 3 (0, 0)) from zH HG.out)
   have HB2 := zA (below_drew HB.out)
   have HONE := zA (show ∀ u ∈ List.replicate q (Value.int .i64 v), u.oneCell' = true from fun u hu => by rw [(List.mem_replicate.1 hu).2]; rfl)
   have HPOS := zA (show 0 < (List.replicate q (Value.int .i64 v)).length → (some (⟨w.heap.size, m, none⟩ : Addr) = some ⟨w.heap.size, m, none⟩ ∧ ∃ ad : Addr, some (⟨w.heap.size, 0, none⟩ : Addr) = some ad ∧ ∀ j u, (List.replicate q (Value.int .i64 v))[j]? = some u → wr.drew.cell? (ad.add j) = some u) from fun _ => ⟨rfl, _, rfl, HCP.out⟩)
   go_wp2
   go_region_law (refine step_copy_splice (w := wr.drew) (by rfl) (.tmp 41) (.tmp 44) 36 36 (by rfl) 3 HU.out HSZ.out (some ⟨w.heap.size, m, none⟩) (some ⟨w.heap.size, 0, none⟩) (64 - m) (64 - m) m 64 (by first | (go_simp; done) | (go_simp; rfl)) (by first | (go_simp; done) | (go_simp; rfl)) w.heap.size m (repV v m) 3 HG2.out (List.replicate q (.int .i64 v)) HN.out (fun _ => ⟨rfl, _, rfl, HCP.out⟩) HF.out HONE.out w.heap.size w HB2.out (Nat.le_refl _) ?_; intro w4 hg4 hb4)
   have HG4 := zA (show w4.heap[w.heap.size]? = some (.cells (repV v (m + q)).toArray 3 (0, 0)) by have h_ : w4.heap[w.heap.size]? = some (.cells (splice (repV v m) m (List.replicate q (.int .i64 v))).toArray 3 (0, 0)) := hg4; rw [repV_splice v m q q2] at h_; exact h_)
   have HB4 := zA hb4
   clear hg4 hb4 HG HB HG2 HB2 HCP HN HF HONE HPOS
   go_wp2
   simp only [Act.put, List.getElem_toArray, List.getElem_cons_succ, List.getElem_cons_zero, List.setIfInBounds_toArray, List.set_cons_zero, List.set_cons_succ]
   go_roundw
   case rel => exact ⟨m + q, by first | go_num | (simp; done), by omega, by omega, ⟨by repeat (first | exact HG4.out | apply zG | apply zH)⟩, ⟨by repeat (first | exact HB4.out | apply zB | apply below_drew)⟩⟩
   case measure => simp [intOf]; omega
  ·obtain rfl : m = 64 := by omega
   go_wp2
   go_ret
   exact ⟨_, rfl, by repeat (first | exact R_block wr w.heap.size w.heap.size (List.replicate 64 v) (Nat.le_refl _) HG.out (by simp) | apply zM | apply zO), by repeat (first | exact HB.out | apply zB | apply below_drew)⟩
end Go.Proofs.Ytilimpjcdeeaiaa.G


namespace Go.Proofs.Ytilimpjcdeeaiaa.G
open Go.RowKit Go.Proofs.YtilimpjcdeeaiaaW.PrintWords Go.Proofs.YtilimpjcdeeaiaaW.PrintLast Go.Proofs.YtilimpjcdeeaiaaW.PrintMore
attribute [local go_sem] max2_int min2_int max_two min_two max_three min_three max_four min_four   -- for this text's walks alone
--import Derived.Laws.CopyOwn
def untoldM (n : Nat) : List (List Int) := List.replicate n (List.replicate 64 (-1))
def impl_untold.f (a0_0 a0_1 a0_2 a0_3 : Int) (l0_4 : List S102) : Option (List (List Int)) := if l0_4.length ≤ 1000000 then some (untoldM l0_4.length) else none
def UntR (w : World) (n : Nat) (v3 v8 : Value) (w' : World) : Prop :=
 ∃ i : Nat, v8 = .int .i64 i ∧ i ≤ n ∧ Aside0 (Kd.S (Kd.slice 3 (Kd.int .i64)) 36 w' w.heap.size (fun _ => True) v3 (untoldM i)) ∧ Aside0 (Below w.heap.size w w')
set_option maxRecDepth 100000 in
set_option maxHeartbeats 4000000 in
theorem impl_untold.calls (a0_0 a0_1 a0_2 a0_3 : Int) (A0_4 : Option Addr) (c0_4 : Nat) (l0_4 : List S102) (r : List (List Int)) (w : World) (hr0_4 : Kd.C k102 w A0_4 l0_4.length l0_4) (hc0_4 : l0_4.length ≤ c0_4) (h : impl_untold.f a0_0 a0_1 a0_2 a0_3 l0_4 = some r) :
  Calls Try.prog 112 #[.agg #[.int .i64 a0_0, .int .i64 a0_1, .int .i64 a0_2, .int .i64 a0_3, .slice A0_4 l0_4.length c0_4]] w fun e w' => ∃ v0_ : Value, e = .returned (v0_) ∧ Kd.S (Kd.slice 3 (Kd.int .i64)) 36 w' w.heap.size (fun _ => True) v0_ r ∧ Below w.heap.size w w' := by
 unfold impl_untold.f at h
 split at h
 case isFalse => cases h
 rename_i hn
 obtain rfl := Option.some.inj h
 clear h hr0_4 hc0_4
 go_enter Try.func112, Try.ntmps112
 go_upto_region 1 with (fail)
 have k1 := blk_new w (Obj.cells #[.int .i64 a0_0, .int .i64 a0_1, .int .i64 a0_2, .int .i64 a0_3, .slice A0_4 l0_4.length c0_4] 26)
 have HB0 := zA (show Below w.heap.size w (w.alloc (Obj.cells #[.int .i64 a0_0, .int .i64 a0_1, .int .i64 a0_2, .int .i64 a0_3, .slice A0_4 l0_4.length c0_4] 26)) from zC (Below.refl _ _) _)
 generalize w.alloc (Obj.cells #[.int .i64 a0_0, .int .i64 a0_1, .int .i64 a0_2, .int .i64 a0_3, .slice A0_4 l0_4.length c0_4] 26) = W1 at k1 HB0 ⊢
 obtain ⟨n, hnn⟩ : ∃ n, n = l0_4.length := ⟨_, rfl⟩
 rw [← hnn] at k1 hn ⊢
 have K1 := zA k1
 clear k1
 go_upto_region 2 with (first | ((with_reducible refine gate_dst (N := 4) rfl ?_); refine Kd.S_lit (w0 := w) (Kd.slice 3 (Kd.int .i64)) w.heap.size 36 ?hg (N := 4) ?hd (xs := ([] : List (List Int))) (inner := []) (ok := fun _ => True) (okp := fun _ => False) ?hr ?hp (fun _ hk => hk.elim) trivial HB0.out HB0.out.size (by simp) ?_; (case hd => rfl); (case hg => rfl); (case hr => first | (go_simp; done) | (go_simp; rfl)); (case hp => exact (Reps.none _ _)); intro v4 w2 ho hb hg_ hnew_; have HO := zA ho; have HB := zA hb; have K2 := zA (blk_grown K1.out hg_ (by simp)); clear ho hb hg_ hnew_))
 have q4 := zK K2.out 4
 simp at q4
 clear K1 HB0
 go_wp2
 clear q4 K2
 go_loopw [3, 8] (fun v3 v8 w' => UntR w n v3 v8 w') (fun v3 v8 w' => n - (intOf v8).toNat)
 case atStart => exact ⟨0, rfl, Nat.zero_le _, ⟨by repeat (first | exact HO.out | apply yF | apply yG)⟩, ⟨by repeat (first | exact HB.out | apply zB | apply below_drew)⟩⟩
 case round =>
  clear HO HB
  obtain ⟨i, rfl, hi, HO, HB⟩ := hrel
  obtain ⟨A7, c7, e7⟩ := Kd.R_slice (Kd.S_R HO.out)
  subst e7
  by_cases hlt : i < n
  ·have hlen : (untoldM i).length = i := by simp [untoldM]
   rw [hlen] at HO
   (try rw [hlen])
   go_wp2_with fail
   refine (repeat64_calls ⟨wr.heap.size, 0, none⟩ 1 (-1) _ (by simp) (by omega)).mono ?_
   rintro e_ w2 ⟨v, rfl, hrow, hb⟩
   have hb2 : Below wr.heap.size wr w2 := Below.trans (zC (Below.refl _ _) _) (hb.mono (by rw [yJ]; omega))
   have HROW := zA (Kd.R_lower (zP (ok' := fun k => wr.heap.size ≤ k) (Kd.R_bound hrow) (fun k hk => by have := hk.2.1; rw [yJ] at this; omega)) (show w.heap.size ≤ (wr.alloc (Obj.cells #[Value.int IntKind.i64 (-1)] 3)).heap.size by rw [yJ]; have := HB.out.size; omega))
   have HOLD := zA (yH (ok' := fun k => True ∧ ¬ wr.heap.size ≤ k) (Kd.S_old HO.out hb2) (fun k hk => ⟨hk.1, Nat.not_le.2 hk.2⟩))
   have HB3 := zA (show Below w.heap.size w w2 from Below.trans HB.out (hb2.mono HB.out.size))
   have HNE := zA (show ∀ k, wr.heap.size ≤ k → True ∧ some k ≠ (Value.slice A7 i c7).ownBlock from fun k hk => ⟨trivial, fun e => absurd (Kd.S_lt HO.out k e.symm) (by omega)⟩)
   obtain ⟨Ar, cr, er⟩ := Kd.R_slice hrow
   rw [List.length_replicate] at er
   subst er
   obtain ⟨row, hrw⟩ : ∃ row, row = List.replicate 64 (-1 : Int) := ⟨_, rfl⟩
   obtain ⟨out, hout⟩ : ∃ out, out = untoldM i := ⟨_, rfl⟩
   rw [← hrw] at HROW
   rw [← hout] at HOLD hlen
   have HOUT := zA (show untoldM (i + 1) = out ++ [row] by rw [hout, hrw]; unfold untoldM; rw [List.replicate_succ'])
   clear hrow hb hb2 hrw hout HO HB
   go_wp2_with (first | ((with_reducible refine gate_builtin (b := .append) (xs := #[.tmp 10, .tmp 13]) rfl ?_); at_builtin; refine Kd.S_append (Kd.slice 3 (Kd.int .i64)) (w0 := w) w.heap.size rfl (.tmp 10) (.tmp 13) 34 36 (.slice none 0 0) 24 rfl Try.underlying34 info36 rfl (by decide) (by omega) _ out row [.slice Ar 64 cr] (fun _ => True) (fun k => wr.heap.size ≤ k) rfl rfl ⟨_, rfl, HROW.out⟩ HNE.out (fun k hk => trivial) HOLD.out HB3.out HB3.out.size (by omega) ?_; intro v8 w3 ho hb hg hat; have HO2 := zA ho; have HB4 := zA hb; have HG := zA hg; clear ho hb hg hat))
   go_roundw
   case rel => exact ⟨i + 1, by go_num, by omega, ⟨by rw [HOUT.out]; repeat (first | exact HO2.out | apply yF | apply yG)⟩, ⟨by repeat (first | exact HB4.out | apply zB | apply below_drew)⟩⟩
   case measure => simp [intOf]; omega
  ·have HO2 := zA (show Kd.S (Kd.slice 3 (Kd.int .i64)) 36 wr w.heap.size (fun _ => True) (.slice A7 (untoldM i).length c7) (untoldM l0_4.length) by rw [← hnn, ← show i = n by omega]; exact HO.out)
   obtain rfl : i = n := by omega
   clear HO
   go_wp2
   go_ret
   exact ⟨_, rfl, by repeat (first | exact HO2.out | apply yF | apply yG), by repeat (first | exact HB.out | apply zB | apply below_drew)⟩
end Go.Proofs.Ytilimpjcdeeaiaa.G


namespace Go.Proofs.Ytilimpjcdeeaiaa.G
open Go.RowKit Go.Proofs.YtilimpjcdeeaiaaW.PrintWords Go.Proofs.YtilimpjcdeeaiaaW.PrintLast Go.Proofs.YtilimpjcdeeaiaaW.PrintMore
attribute [local go_sem] max2_int min2_int max_two min_two max_three min_three max_four min_four   -- for this text's walks alone
def cgo (n : Int) (l : List Int) : Nat → Nat → Bool
 | _, 0 => true
 | i, d + 1 => (decide (0 ≤ rd l i) && decide (rd l i ≤ n - 1)) && ((decide (i = 0) || decide (rd l ((i : Int) - 1) < rd l i)) && cgo n l (i + 1) d)
def compsOkM (n : Int) (l : List Int) : Bool := cgo n l 0 l.length && decide (0 < l.length)
def passM (fr te hi lo : Int) : Bool := (decide (0 ≤ fr) && decide (fr ≤ te)) && (decide (te ≤ 63) && ((decide (0 ≤ lo) && decide (lo ≤ 13)) && (decide (hi = 0) || decide (hi = lo + 1))))
def scanOkM (n : Int) (s : SN) : Bool := compsOkM n s.f0 && passM s.f1 s.f2 s.f3 s.f4
def leftGo : List SN → List (List Int) → Option (List (List Int))
 | [], L => some L
 | s :: ss, L => (tellR s L).bind (leftGo ss)
def leftM (n : Nat) (script : List SN) : Option (List (List Int)) := if script.length ≤ 40 ∧ (script.all (scanOkM n)) = true then leftGo script (untoldM n) else none
theorem cgo_in (n : Int) (l : List Int) : ∀ (d i : Nat), i + d = l.length → cgo n l i d = true → ∀ j, i ≤ j → j < l.length → 0 ≤ rd l j ∧ rd l j ≤ n - 1
 | 0, i, hi, _, j, h1, h2 => by omega
 | d + 1, i, hi, h, j, h1, h2 => by
  rw [cgo] at h
  simp only [Bool.and_eq_true, decide_eq_true_eq] at h
  by_cases e : j = i
  ·subst e; exact h.1
  ·exact cgo_in n l d (i + 1) (by omega) h.2.2 j (by omega) h2
theorem cgo_rise (n : Int) (l : List Int) : ∀ (d i : Nat), i + d = l.length → cgo n l i d = true → ∀ j, i ≤ j → j < l.length → 0 < j → rd l ((j : Int) - 1) < rd l j
 | 0, i, hi, _, j, h1, h2, _ => by omega
 | d + 1, i, hi, h, j, h1, h2, h3 => by
  rw [cgo] at h
  simp only [Bool.and_eq_true, Bool.or_eq_true, decide_eq_true_eq] at h
  by_cases e : j = i
  ·subst e
   rcases h.2.1 with h4 | h4
   ·omega
   ·exact h4
  ·exact cgo_rise n l d (i + 1) (by omega) h.2.2 j (by omega) h2 h3
theorem comps_len {n : Int} {l : List Int} (h : compsOkM n l = true) : 1 ≤ l.length ∧ (l.length : Int) ≤ n := by
 unfold compsOkM at h
 rw [Bool.and_eq_true, decide_eq_true_eq] at h
 have h1 := cgo_in n l l.length 0 (by omega) h.1
 have h2 := cgo_rise n l l.length 0 (by omega) h.1
 have h3 : ∀ j : Nat, j < l.length → (j : Int) ≤ rd l j := by
  intro j
  induction j with
  | zero => intro hj; exact (h1 0 (by omega) hj).1
  | succ j ih =>
   intro hj
   have h4 := h2 (j + 1) (by omega) hj (by omega)
   rw [show ((j + 1 : Nat) : Int) - 1 = (j : Int) by omega] at h4
   have := ih (by omega)
   omega
 have h5 := h3 (l.length - 1) (by omega)
 have h6 := (h1 (l.length - 1) (by omega) (by omega)).2
 exact ⟨h.2, by omega⟩
theorem comps_in {n : Int} {l : List Int} (h : compsOkM n l = true) : ∀ c ∈ l, 0 ≤ c ∧ c < n := by
 unfold compsOkM at h
 rw [Bool.and_eq_true, decide_eq_true_eq] at h
 intro c hc
 obtain ⟨i, hi, rfl⟩ := List.getElem_of_mem hc
 have := cgo_in n l l.length 0 (by omega) h.1 i (by omega) hi
 rw [rd_nat l i hi] at this
 omega
theorem pass_of {fr te hi lo : Int} (h : passM fr te hi lo = true) : 0 ≤ fr ∧ fr ≤ te ∧ te ≤ 63 ∧ 0 ≤ lo ∧ lo ≤ 13 ∧ (hi = 0 ∨ hi = lo + 1) := by
 unfold passM at h
 simp only [Bool.and_eq_true, Bool.or_eq_true, decide_eq_true_eq] at h
 exact ⟨h.1.1, h.1.2, h.2.1, h.2.2.1.1, h.2.2.1.2, h.2.2.2⟩
def leftRes (o : Option (List (List Int))) : List (List Int) × Bool := match o with
 | some L => (L, true)
 | none => ([], false)
def leftGo2 (n : Nat) : List SN → List (List Int) → Option (List (List Int))
 | [], L => some L
 | s :: ss, L => if scanOkM n s = true then (tellR s L).bind (leftGo2 n ss) else none
theorem leftGo2_eq (n : Nat) : ∀ (ss : List SN) (L : List (List Int)), leftGo2 n ss L = if ss.all (scanOkM n) = true then leftGo ss L else none
 | [], L => rfl
 | s :: ss, L => by
  rw [leftGo2, leftGo, List.all_cons]
  by_cases h : scanOkM n s = true
  ·rw [if_pos h, h, Bool.true_and, funext (leftGo2_eq n ss)]
   by_cases h2 : ss.all (scanOkM n) = true
   ·rw [if_pos h2]
    simp only [h2, if_true]
   ·rw [if_neg h2]
    simp only [h2, if_false]
    cases tellR s L <;> rfl
  ·rw [if_neg h, Bool.eq_false_iff.2 h, Bool.false_and, if_neg Bool.false_ne_true]
theorem Rows64.put {n : Nat} {L : List (List Int)} (h : Rows64 n L) (i k : Nat) (v : Int) : Rows64 n (L.set i ((L.getD i []).set k v)) := by
 by_cases hi : i < n
 ·exact h.set i k v hi
 ·rw [List.set_eq_of_length_le (by rw [h.1]; omega)]; exact h
theorem tellK_rows (want lo : Int) (c n : Nat) : ∀ (m k : Nat) (L L' : List (List Int)), Rows64 n L → tellK want lo c m k L = some L' → Rows64 n L'
 | 0, k, L, L', h, e => by rw [tellK] at e; rw [← Option.some.inj e]; exact h
 | m + 1, k, L, L', h, e => by
  rw [tellK] at e
  split at e
  ·exact tellK_rows want lo c n m (k + 1) _ L' (h.put c k lo) e
  ·cases e
theorem tellC_rows (want lo : Int) (fr m n : Nat) : ∀ (cs : List Int) (L L' : List (List Int)), Rows64 n L → tellC want lo fr m cs L = some L' → Rows64 n L'
 | [], L, L', h, e => by rw [tellC] at e; rw [← Option.some.inj e]; exact h
 | c :: cs, L, L', h, e => by
  rw [tellC] at e
  obtain ⟨L1, e1, e2⟩ := Option.bind_eq_some_iff.1 e
  exact tellC_rows want lo fr m n cs L1 L' (tellK_rows want lo c.toNat n m fr L L1 h e1) e2
theorem leftGo_rows (n : Nat) : ∀ (ss : List SN) (L L' : List (List Int)), Rows64 n L → leftGo ss L = some L' → Rows64 n L'
 | [], L, L', h, e => by rw [leftGo] at e; rw [← Option.some.inj e]; exact h
 | s :: ss, L, L', h, e => by
  rw [leftGo] at e
  obtain ⟨L1, e1, e2⟩ := Option.bind_eq_some_iff.1 e
  exact leftGo_rows n ss L1 L' (tellC_rows _ _ _ _ n s.f0 L L1 h e1) e2
theorem untold64' (n : Nat) : Rows64 n (untoldM n) := ⟨by simp [untoldM], fun x hx => by rw [(List.mem_replicate.1 hx).2]; simp⟩
theorem leftM_rows {n : Nat} {script : List SN} {L : List (List Int)} (h : leftM n script = some L) : Rows64 n L := by
 unfold leftM at h
 split at h
 ·exact leftGo_rows n script (untoldM n) L (untold64' n) h
 ·cases h
def scriptOkM (p w h r : Int) (l : List SC) (script : List SN) : Bool := frameOkM p w h r l && (match leftM l.length script with
 | some L => L.all (allW 0 0)
 | none => false)
end Go.Proofs.Ytilimpjcdeeaiaa.G


namespace Go.Proofs.Ytilimpjcdeeaiaa.G
open Go.RowKit Go.Proofs.YtilimpjcdeeaiaaW.PrintWords Go.Proofs.YtilimpjcdeeaiaaW.PrintLast Go.Proofs.YtilimpjcdeeaiaaW.PrintMore
attribute [local go_sem] max2_int min2_int max_two min_two max_three min_three max_four min_four   -- for this text's walks alone
def impl_ScanOk.f (k : Nat) (a0_0 : Int) (a0_1 : Int) (a0_2 : Int) (a0_3 : Int) (l0_4 : List (S102)) (l1_0 : List Int) (a1_1 : Int) (a1_2 : Int) (a1_3 : Int) (a1_4 : Int) : Option (Bool) := (impl_FrameOk.f a0_0 a0_1 a0_2 a0_3 l0_4).bind fun t254 => (if t254 = true then ((impl_Frame_areComps.f k a0_0 a0_1 a0_2 a0_3 l0_4 l1_0).bind fun t255 => (if t255 = true then ((impl_Scan_isPass.f l1_0 a1_1 a1_2 a1_3 a1_4).bind fun t256 => (some t256)) else (some false))) else (some false))
set_option maxHeartbeats 8000000 in
set_option maxRecDepth 100000 in
theorem impl_ScanOk.calls (k : Nat) (a0_0 : Int) (a0_1 : Int) (a0_2 : Int) (a0_3 : Int) (A0_4 : Option Addr) (c0_4 : Nat) (l0_4 : List (S102)) (A1_0 : Option Addr) (c1_0 : Nat) (l1_0 : List Int) (a1_1 : Int) (a1_2 : Int) (a1_3 : Int) (a1_4 : Int) (r : Bool) (w : World) (hr0_4 : Kd.C k102 w A0_4 l0_4.length l0_4) (hc0_4 : l0_4.length ≤ c0_4) (hr1_0 : Kd.C (Kd.int .i64) w A1_0 l1_0.length l1_0) (hc1_0 : l1_0.length ≤ c1_0) (h : impl_ScanOk.f k a0_0 a0_1 a0_2 a0_3 l0_4 l1_0 a1_1 a1_2 a1_3 a1_4 = some r) :
  Calls Try.prog 111 #[.agg #[.int .i64 a0_0, .int .i64 a0_1, .int .i64 a0_2, .int .i64 a0_3, .slice A0_4 l0_4.length c0_4], .agg #[.slice A1_0 l1_0.length c1_0, .int .i64 a1_1, .int .i64 a1_2, .int .i64 a1_3, .int .i64 a1_4]] w fun e w' => e = .returned (.bool r) ∧ Below w.heap.size w w' := by
 have hu26 := Try.underlying26
 have hu38 := Try.underlying38
 have HR0_4 := zA hr0_4
 have HC0_4 := zA hc0_4
 clear hr0_4 hc0_4
 have HR1_0 := zA hr1_0
 have HC1_0 := zA hc1_0
 clear hr1_0 hc1_0
 have HB := zA (Below.refl w.heap.size w)
 have H : ((impl_FrameOk.f a0_0 a0_1 a0_2 a0_3 l0_4).bind fun t254 => (if t254 = true then ((impl_Frame_areComps.f k a0_0 a0_1 a0_2 a0_3 l0_4 l1_0).bind fun t255 => (if t255 = true then ((impl_Scan_isPass.f l1_0 a1_1 a1_2 a1_3 a1_4).bind fun t256 => (some t256)) else (some false))) else (some false))) = some r := h
 clear h
 replace H := Option.bind_eq_some_iff.mp H
 obtain ⟨t254, A30, H⟩ := H
 replace H : (if t254 = true then ((impl_Frame_areComps.f k a0_0 a0_1 a0_2 a0_3 l0_4 l1_0).bind fun t255 => (if t255 = true then ((impl_Scan_isPass.f l1_0 a1_1 a1_2 a1_3 a1_4).bind fun t256 => (some t256)) else (some false))) else (some false)) = some r := H
 have A3 := zA A30
 clear A30
 by_cases c4 : t254 = true
 ·subst c4
  have H1 : ((impl_Frame_areComps.f k a0_0 a0_1 a0_2 a0_3 l0_4 l1_0).bind fun t255 => (if t255 = true then ((impl_Scan_isPass.f l1_0 a1_1 a1_2 a1_3 a1_4).bind fun t256 => (some t256)) else (some false))) = some r := by rw [if_pos rfl] at H; exact H
  clear H
  have H := H1
  clear H1
  replace H := Option.bind_eq_some_iff.mp H
  obtain ⟨t255, A50, H⟩ := H
  replace H : (if t255 = true then ((impl_Scan_isPass.f l1_0 a1_1 a1_2 a1_3 a1_4).bind fun t256 => (some t256)) else (some false)) = some r := H
  have A5 := zA A50
  clear A50
  by_cases c6 : t255 = true
  ·subst c6
   have H1 : ((impl_Scan_isPass.f l1_0 a1_1 a1_2 a1_3 a1_4).bind fun t256 => (some t256)) = some r := by rw [if_pos rfl] at H; exact H
   clear H
   have H := H1
   clear H1
   replace H := Option.bind_eq_some_iff.mp H
   obtain ⟨t256, A70, H⟩ := H
   replace H : (some t256) = some r := H
   have A7 := zA A70
   clear A70
   obtain rfl := Option.some.inj H
   go_enter Try.func111, Try.ntmps111
   go_wp2_with (first | ((with_reducible refine gate_dst (N := 2) rfl ?_); refine box_event ?hg (N := 2) ?hd (cs := #[.int .i64 a0_0, .int .i64 a0_1, .int .i64 a0_2, .int .i64 a0_3, .slice A0_4 l0_4.length c0_4]) (t := 26) ?hr ?_; (case hd => rfl); (case hg => rfl); (case hr => first | (go_simp; done) | (go_simp; rfl)); intro gb252 hg w8 hbox hb; have n0_ := zA (below_step (by repeat (first | (with_reducible first | exact HB.out | apply zC | apply zB | apply zF) | exact HB.out)) hb); have n1_ := zA (hbox); have n2_ := zA ((by rw [hg]; exact (zL (by repeat (first | (with_reducible first | exact HB.out | apply zC | apply zB | apply zF) | exact HB.out))) : w.heap.size ≤ gb252)); have n3_ := zA ((by rw [hg]; exact (zL (by repeat (first | (with_reducible first | exact HB.out | apply zC | apply zB | apply zF) | exact HB.out))) : w.heap.size ≤ gb252)); clear HB; have HB := n0_; have BK252 := n1_; have GW252 := n2_; have GE252 := n3_; clear n0_ n1_ n2_ n3_; clear hb hbox hg) | ((with_reducible refine gate_dst (N := 3) rfl ?_); refine box_event ?hg (N := 3) ?hd (cs := #[.slice A1_0 l1_0.length c1_0, .int .i64 a1_1, .int .i64 a1_2, .int .i64 a1_3, .int .i64 a1_4]) (t := 38) ?hr ?_; (case hd => rfl); (case hg => rfl); (case hr => first | (go_simp; done) | (go_simp; rfl)); intro gb253 hg w9 hbox hb; have n0_ := zA (blk_below (g := gb252) (o := .cells #[.int .i64 a0_0, .int .i64 a0_1, .int .i64 a0_2, .int .i64 a0_3, .slice A0_4 l0_4.length c0_4] 26 (0, 0)) (by (with_reducible repeat (first | refine zG ?_ _ | refine zH ?_ | refine zD ?_ _)); exact BK252.out) hb); have n1_ := zA (below_step (by repeat (first | (with_reducible first | exact HB.out | apply zC | apply zB | apply zF | refine zE ?_ GE252.out) | exact HB.out)) hb); have n2_ := zA (hbox); have n3_ := zA ((by rw [hg]; exact (zL (by repeat (first | (with_reducible first | exact HB.out | apply zC | apply zB | apply zF | refine zE ?_ GE252.out) | exact HB.out))) : w.heap.size ≤ gb253)); have n4_ := zA ((by rw [hg]; exact (zL (by repeat (first | (with_reducible first | exact HB.out | apply zC | apply zB | apply zF | refine zE ?_ GE252.out) | exact HB.out))) : w.heap.size ≤ gb253)); have n5_ := zA ((by rw [hg]; exact Nat.ne_of_lt (blk_lt (g := gb252) (o := .cells #[.int .i64 a0_0, .int .i64 a0_1, .int .i64 a0_2, .int .i64 a0_3, .slice A0_4 l0_4.length c0_4] 26 (0, 0)) (by (with_reducible repeat (first | refine zG ?_ _ | refine zH ?_ | refine zD ?_ _)); exact BK252.out)) : gb252 ≠ gb253)); have n6_ := zA ((by rw [hg]; exact Nat.ne_of_gt (blk_lt (g := gb252) (o := .cells #[.int .i64 a0_0, .int .i64 a0_1, .int .i64 a0_2, .int .i64 a0_3, .slice A0_4 l0_4.length c0_4] 26 (0, 0)) (by (with_reducible repeat (first | refine zG ?_ _ | refine zH ?_ | refine zD ?_ _)); exact BK252.out)) : gb253 ≠ gb252)); clear BK252; clear HB; have BK252 := n0_; have HB := n1_; have BK253 := n2_; have GW253 := n3_; have GE253 := n4_; have NB252_253 := n5_; have NB253_252 := n6_; clear n0_ n1_ n2_ n3_ n4_ n5_ n6_; clear hb hbox hg; have hnb10 := NB252_253.out; have hnc10 := NB253_252.out; have hcz11_0 : w9.cell? ⟨gb252, 0, none⟩ = some (.int .i64 a0_0) := (zK BK252.out 0).trans rfl; have hcz11_1 : w9.cell? ⟨gb252, 1, none⟩ = some (.int .i64 a0_1) := (zK BK252.out 1).trans rfl; have hcz11_2 : w9.cell? ⟨gb252, 2, none⟩ = some (.int .i64 a0_2) := (zK BK252.out 2).trans rfl; have hcz11_3 : w9.cell? ⟨gb252, 3, none⟩ = some (.int .i64 a0_3) := (zK BK252.out 3).trans rfl; have hcz11_4 : w9.cell? ⟨gb252, 4, none⟩ = some (.slice A0_4 l0_4.length c0_4) := (zK BK252.out 4).trans rfl; have hfz11_0 := zJ BK252.out 0; have hfz11_1 := zJ BK252.out 1; have hfz11_2 := zJ BK252.out 2; have hfz11_3 := zJ BK252.out 3; have hfz11_4 := zJ BK252.out 4) | ((with_reducible refine gate_callee (f := 52) rfl ?_); refine goesL_ (some 6) rfl rfl Try.func52 (by kernel_rfl) rfl #[.agg #[.int .i64 a0_0, .int .i64 a0_1, .int .i64 a0_2, .int .i64 a0_3, .slice A0_4 l0_4.length c0_4]] rfl (by (try simp only [zU, zV, zW]); first | done | rfl | (simp only [zR, zQ]; rfl)) ?_; (with_reducible refine (impl_FrameOk.calls a0_0 a0_1 a0_2 a0_3 _ _ l0_4 true _ ?side1 ?side2 A3.out).mono ?_); (case side1 => repeat (first | exact (Kd.C_below HR0_4.out HB.out) | (with_reducible refine yN ?_ _) | (with_reducible refine yL ?_ _) | (with_reducible refine yM ?_))); (case side2 => exact HC0_4.out); rintro e w12 ⟨rfl, hb⟩; refine ⟨_, rfl, ?_⟩; have n0_ := zA (blk_below (g := gb252) (o := .cells #[.int .i64 a0_0, .int .i64 a0_1, .int .i64 a0_2, .int .i64 a0_3, .slice A0_4 l0_4.length c0_4] 26 (0, 0)) (by (with_reducible repeat (first | refine zG ?_ _ | refine zH ?_ | refine zD ?_ _)); exact BK252.out) hb); have n1_ := zA (blk_below (g := gb253) (o := .cells #[.slice A1_0 l1_0.length c1_0, .int .i64 a1_1, .int .i64 a1_2, .int .i64 a1_3, .int .i64 a1_4] 38 (0, 0)) (by (with_reducible repeat (first | refine zG ?_ _ | refine zH ?_ | refine zD ?_ _)); exact BK253.out) hb); have n2_ := zA (below_step (by repeat (first | (with_reducible first | exact HB.out | apply zC | apply zB | apply zF | refine zE ?_ GE252.out | refine zE ?_ GE253.out) | exact HB.out)) hb); clear BK252; clear BK253; clear HB; have BK252 := n0_; have BK253 := n1_; have HB := n2_; clear n0_ n1_ n2_; (try clear hb); (try clear hb2); (try clear hk); (try clear hi); have hcz13_0 : w12.cell? ⟨gb252, 0, none⟩ = some (.int .i64 a0_0) := (zK BK252.out 0).trans rfl; have hcz13_1 : w12.cell? ⟨gb252, 1, none⟩ = some (.int .i64 a0_1) := (zK BK252.out 1).trans rfl; have hcz13_2 : w12.cell? ⟨gb252, 2, none⟩ = some (.int .i64 a0_2) := (zK BK252.out 2).trans rfl; have hcz13_3 : w12.cell? ⟨gb252, 3, none⟩ = some (.int .i64 a0_3) := (zK BK252.out 3).trans rfl; have hcz13_4 : w12.cell? ⟨gb252, 4, none⟩ = some (.slice A0_4 l0_4.length c0_4) := (zK BK252.out 4).trans rfl; have hfz13_0 := zJ BK252.out 0; have hfz13_1 := zJ BK252.out 1; have hfz13_2 := zJ BK252.out 2; have hfz13_3 := zJ BK252.out 3; have hfz13_4 := zJ BK252.out 4; have hcz14_0 : w12.cell? ⟨gb253, 0, none⟩ = some (.slice A1_0 l1_0.length c1_0) := (zK BK253.out 0).trans rfl; have hcz14_1 : w12.cell? ⟨gb253, 1, none⟩ = some (.int .i64 a1_1) := (zK BK253.out 1).trans rfl; have hcz14_2 : w12.cell? ⟨gb253, 2, none⟩ = some (.int .i64 a1_2) := (zK BK253.out 2).trans rfl; have hcz14_3 : w12.cell? ⟨gb253, 3, none⟩ = some (.int .i64 a1_3) := (zK BK253.out 3).trans rfl; have hcz14_4 : w12.cell? ⟨gb253, 4, none⟩ = some (.int .i64 a1_4) := (zK BK253.out 4).trans rfl; have hfz14_0 := zJ BK253.out 0; have hfz14_1 := zJ BK253.out 1; have hfz14_2 := zJ BK253.out 2; have hfz14_3 := zJ BK253.out 3; have hfz14_4 := zJ BK253.out 4) | (go_at_call 143; (with_reducible refine (impl_Frame_areComps.calls k a0_0 a0_1 a0_2 a0_3 _ _ l0_4 _ _ l1_0 true _ ?side1 ?side2 ?side3 ?side4 A5.out).mono ?_); (case side1 => repeat (first | exact (Kd.C_below HR0_4.out HB.out) | (with_reducible refine yN ?_ _) | (with_reducible refine yL ?_ _) | (with_reducible refine yM ?_))); (case side2 => exact HC0_4.out); (case side3 => repeat (first | exact (Kd.C_below HR1_0.out HB.out) | (with_reducible refine yN ?_ _) | (with_reducible refine yL ?_ _) | (with_reducible refine yM ?_))); (case side4 => exact HC1_0.out); rintro e w15 ⟨rfl, hb⟩; have n0_ := zA (blk_below (g := gb252) (o := .cells #[.int .i64 a0_0, .int .i64 a0_1, .int .i64 a0_2, .int .i64 a0_3, .slice A0_4 l0_4.length c0_4] 26 (0, 0)) (by (with_reducible repeat (first | refine zG ?_ _ | refine zH ?_ | refine zD ?_ _)); exact BK252.out) hb); have n1_ := zA (blk_below (g := gb253) (o := .cells #[.slice A1_0 l1_0.length c1_0, .int .i64 a1_1, .int .i64 a1_2, .int .i64 a1_3, .int .i64 a1_4] 38 (0, 0)) (by (with_reducible repeat (first | refine zG ?_ _ | refine zH ?_ | refine zD ?_ _)); exact BK253.out) hb); have n2_ := zA (below_step (by repeat (first | (with_reducible first | exact HB.out | apply zC | apply zB | apply zF | refine zE ?_ GE252.out | refine zE ?_ GE253.out) | exact HB.out)) hb); clear BK252; clear BK253; clear HB; have BK252 := n0_; have BK253 := n1_; have HB := n2_; clear n0_ n1_ n2_; (try clear hb); (try clear hb2); (try clear hk); (try clear hi); have hcz16_0 : w15.cell? ⟨gb253, 0, none⟩ = some (.slice A1_0 l1_0.length c1_0) := (zK BK253.out 0).trans rfl; have hcz16_1 : w15.cell? ⟨gb253, 1, none⟩ = some (.int .i64 a1_1) := (zK BK253.out 1).trans rfl; have hcz16_2 : w15.cell? ⟨gb253, 2, none⟩ = some (.int .i64 a1_2) := (zK BK253.out 2).trans rfl; have hcz16_3 : w15.cell? ⟨gb253, 3, none⟩ = some (.int .i64 a1_3) := (zK BK253.out 3).trans rfl; have hcz16_4 : w15.cell? ⟨gb253, 4, none⟩ = some (.int .i64 a1_4) := (zK BK253.out 4).trans rfl; have hfz16_0 := zJ BK253.out 0; have hfz16_1 := zJ BK253.out 1; have hfz16_2 := zJ BK253.out 2; have hfz16_3 := zJ BK253.out 3; have hfz16_4 := zJ BK253.out 4) | (go_at_call 144; (with_reducible refine (impl_Scan_isPass.calls _ _ l1_0 a1_1 a1_2 a1_3 a1_4 t256 _ ?side1 ?side2 A7.out).mono ?_); (case side1 => repeat (first | exact (Kd.C_below HR1_0.out HB.out) | (with_reducible refine yN ?_ _) | (with_reducible refine yL ?_ _) | (with_reducible refine yM ?_))); (case side2 => exact HC1_0.out); rintro e w17 ⟨rfl, hb⟩; have n0_ := zA (blk_below (g := gb252) (o := .cells #[.int .i64 a0_0, .int .i64 a0_1, .int .i64 a0_2, .int .i64 a0_3, .slice A0_4 l0_4.length c0_4] 26 (0, 0)) (by (with_reducible repeat (first | refine zG ?_ _ | refine zH ?_ | refine zD ?_ _)); exact BK252.out) hb); have n1_ := zA (blk_below (g := gb253) (o := .cells #[.slice A1_0 l1_0.length c1_0, .int .i64 a1_1, .int .i64 a1_2, .int .i64 a1_3, .int .i64 a1_4] 38 (0, 0)) (by (with_reducible repeat (first | refine zG ?_ _ | refine zH ?_ | refine zD ?_ _)); exact BK253.out) hb); have n2_ := zA (below_step (by repeat (first | (with_reducible first | exact HB.out | apply zC | apply zB | apply zF | refine zE ?_ GE252.out | refine zE ?_ GE253.out) | exact HB.out)) hb); clear BK252; clear BK253; clear HB; have BK252 := n0_; have BK253 := n1_; have HB := n2_; clear n0_ n1_ n2_; (try clear hb); (try clear hb2); (try clear hk); (try clear hi)))
   go_ret
   exact ⟨by first | rfl | (simp [errW_none, errW_some] <;> rfl) | (simp [*, errW_none, errW_some] <;> rfl), by repeat (first | (with_reducible first | exact HB.out | apply zC | apply zB | apply zF | refine zE ?_ GE252.out | refine zE ?_ GE253.out) | exact HB.out)⟩
  ·replace c6 := Bool.eq_false_iff.mpr c6
   subst c6
   have H1 : (some false) = some r := by rw [if_neg (show ¬ (false = true) by decide)] at H; exact H
   clear H
   have H := H1
   clear H1
   obtain rfl := Option.some.inj H
   go_enter Try.func111, Try.ntmps111
   go_wp2_with (first | ((with_reducible refine gate_dst (N := 2) rfl ?_); refine box_event ?hg (N := 2) ?hd (cs := #[.int .i64 a0_0, .int .i64 a0_1, .int .i64 a0_2, .int .i64 a0_3, .slice A0_4 l0_4.length c0_4]) (t := 26) ?hr ?_; (case hd => rfl); (case hg => rfl); (case hr => first | (go_simp; done) | (go_simp; rfl)); intro gb252 hg w18 hbox hb; have n0_ := zA (below_step (by repeat (first | (with_reducible first | exact HB.out | apply zC | apply zB | apply zF) | exact HB.out)) hb); have n1_ := zA (hbox); have n2_ := zA ((by rw [hg]; exact (zL (by repeat (first | (with_reducible first | exact HB.out | apply zC | apply zB | apply zF) | exact HB.out))) : w.heap.size ≤ gb252)); have n3_ := zA ((by rw [hg]; exact (zL (by repeat (first | (with_reducible first | exact HB.out | apply zC | apply zB | apply zF) | exact HB.out))) : w.heap.size ≤ gb252)); clear HB; have HB := n0_; have BK252 := n1_; have GW252 := n2_; have GE252 := n3_; clear n0_ n1_ n2_ n3_; clear hb hbox hg) | ((with_reducible refine gate_dst (N := 3) rfl ?_); refine box_event ?hg (N := 3) ?hd (cs := #[.slice A1_0 l1_0.length c1_0, .int .i64 a1_1, .int .i64 a1_2, .int .i64 a1_3, .int .i64 a1_4]) (t := 38) ?hr ?_; (case hd => rfl); (case hg => rfl); (case hr => first | (go_simp; done) | (go_simp; rfl)); intro gb253 hg w19 hbox hb; have n0_ := zA (blk_below (g := gb252) (o := .cells #[.int .i64 a0_0, .int .i64 a0_1, .int .i64 a0_2, .int .i64 a0_3, .slice A0_4 l0_4.length c0_4] 26 (0, 0)) (by (with_reducible repeat (first | refine zG ?_ _ | refine zH ?_ | refine zD ?_ _)); exact BK252.out) hb); have n1_ := zA (below_step (by repeat (first | (with_reducible first | exact HB.out | apply zC | apply zB | apply zF | refine zE ?_ GE252.out) | exact HB.out)) hb); have n2_ := zA (hbox); have n3_ := zA ((by rw [hg]; exact (zL (by repeat (first | (with_reducible first | exact HB.out | apply zC | apply zB | apply zF | refine zE ?_ GE252.out) | exact HB.out))) : w.heap.size ≤ gb253)); have n4_ := zA ((by rw [hg]; exact (zL (by repeat (first | (with_reducible first | exact HB.out | apply zC | apply zB | apply zF | refine zE ?_ GE252.out) | exact HB.out))) : w.heap.size ≤ gb253)); have n5_ := zA ((by rw [hg]; exact Nat.ne_of_lt (blk_lt (g := gb252) (o := .cells #[.int .i64 a0_0, .int .i64 a0_1, .int .i64 a0_2, .int .i64 a0_3, .slice A0_4 l0_4.length c0_4] 26 (0, 0)) (by (with_reducible repeat (first | refine zG ?_ _ | refine zH ?_ | refine zD ?_ _)); exact BK252.out)) : gb252 ≠ gb253)); have n6_ := zA ((by rw [hg]; exact Nat.ne_of_gt (blk_lt (g := gb252) (o := .cells #[.int .i64 a0_0, .int .i64 a0_1, .int .i64 a0_2, .int .i64 a0_3, .slice A0_4 l0_4.length c0_4] 26 (0, 0)) (by (with_reducible repeat (first | refine zG ?_ _ | refine zH ?_ | refine zD ?_ _)); exact BK252.out)) : gb253 ≠ gb252)); clear BK252; clear HB; have BK252 := n0_; have HB := n1_; have BK253 := n2_; have GW253 := n3_; have GE253 := n4_; have NB252_253 := n5_; have NB253_252 := n6_; clear n0_ n1_ n2_ n3_ n4_ n5_ n6_; clear hb hbox hg; have hnb20 := NB252_253.out; have hnc20 := NB253_252.out; have hcz21_0 : w19.cell? ⟨gb252, 0, none⟩ = some (.int .i64 a0_0) := (zK BK252.out 0).trans rfl; have hcz21_1 : w19.cell? ⟨gb252, 1, none⟩ = some (.int .i64 a0_1) := (zK BK252.out 1).trans rfl; have hcz21_2 : w19.cell? ⟨gb252, 2, none⟩ = some (.int .i64 a0_2) := (zK BK252.out 2).trans rfl; have hcz21_3 : w19.cell? ⟨gb252, 3, none⟩ = some (.int .i64 a0_3) := (zK BK252.out 3).trans rfl; have hcz21_4 : w19.cell? ⟨gb252, 4, none⟩ = some (.slice A0_4 l0_4.length c0_4) := (zK BK252.out 4).trans rfl; have hfz21_0 := zJ BK252.out 0; have hfz21_1 := zJ BK252.out 1; have hfz21_2 := zJ BK252.out 2; have hfz21_3 := zJ BK252.out 3; have hfz21_4 := zJ BK252.out 4) | ((with_reducible refine gate_callee (f := 52) rfl ?_); refine goesL_ (some 6) rfl rfl Try.func52 (by kernel_rfl) rfl #[.agg #[.int .i64 a0_0, .int .i64 a0_1, .int .i64 a0_2, .int .i64 a0_3, .slice A0_4 l0_4.length c0_4]] rfl (by (try simp only [zU, zV, zW]); first | done | rfl | (simp only [zR, zQ]; rfl)) ?_; (with_reducible refine (impl_FrameOk.calls a0_0 a0_1 a0_2 a0_3 _ _ l0_4 true _ ?side1 ?side2 A3.out).mono ?_); (case side1 => repeat (first | exact (Kd.C_below HR0_4.out HB.out) | (with_reducible refine yN ?_ _) | (with_reducible refine yL ?_ _) | (with_reducible refine yM ?_))); (case side2 => exact HC0_4.out); rintro e w22 ⟨rfl, hb⟩; refine ⟨_, rfl, ?_⟩; have n0_ := zA (blk_below (g := gb252) (o := .cells #[.int .i64 a0_0, .int .i64 a0_1, .int .i64 a0_2, .int .i64 a0_3, .slice A0_4 l0_4.length c0_4] 26 (0, 0)) (by (with_reducible repeat (first | refine zG ?_ _ | refine zH ?_ | refine zD ?_ _)); exact BK252.out) hb); have n1_ := zA (blk_below (g := gb253) (o := .cells #[.slice A1_0 l1_0.length c1_0, .int .i64 a1_1, .int .i64 a1_2, .int .i64 a1_3, .int .i64 a1_4] 38 (0, 0)) (by (with_reducible repeat (first | refine zG ?_ _ | refine zH ?_ | refine zD ?_ _)); exact BK253.out) hb); have n2_ := zA (below_step (by repeat (first | (with_reducible first | exact HB.out | apply zC | apply zB | apply zF | refine zE ?_ GE252.out | refine zE ?_ GE253.out) | exact HB.out)) hb); clear BK252; clear BK253; clear HB; have BK252 := n0_; have BK253 := n1_; have HB := n2_; clear n0_ n1_ n2_; (try clear hb); (try clear hb2); (try clear hk); (try clear hi); have hcz23_0 : w22.cell? ⟨gb252, 0, none⟩ = some (.int .i64 a0_0) := (zK BK252.out 0).trans rfl; have hcz23_1 : w22.cell? ⟨gb252, 1, none⟩ = some (.int .i64 a0_1) := (zK BK252.out 1).trans rfl; have hcz23_2 : w22.cell? ⟨gb252, 2, none⟩ = some (.int .i64 a0_2) := (zK BK252.out 2).trans rfl; have hcz23_3 : w22.cell? ⟨gb252, 3, none⟩ = some (.int .i64 a0_3) := (zK BK252.out 3).trans rfl; have hcz23_4 : w22.cell? ⟨gb252, 4, none⟩ = some (.slice A0_4 l0_4.length c0_4) := (zK BK252.out 4).trans rfl; have hfz23_0 := zJ BK252.out 0; have hfz23_1 := zJ BK252.out 1; have hfz23_2 := zJ BK252.out 2; have hfz23_3 := zJ BK252.out 3; have hfz23_4 := zJ BK252.out 4; have hcz24_0 : w22.cell? ⟨gb253, 0, none⟩ = some (.slice A1_0 l1_0.length c1_0) := (zK BK253.out 0).trans rfl; have hcz24_1 : w22.cell? ⟨gb253, 1, none⟩ = some (.int .i64 a1_1) := (zK BK253.out 1).trans rfl; have hcz24_2 : w22.cell? ⟨gb253, 2, none⟩ = some (.int .i64 a1_2) := (zK BK253.out 2).trans rfl; have hcz24_3 : w22.cell? ⟨gb253, 3, none⟩ = some (.int .i64 a1_3) := (zK BK253.out 3).trans rfl; have hcz24_4 : w22.cell? ⟨gb253, 4, none⟩ = some (.int .i64 a1_4) := (zK BK253.out 4).trans rfl; have hfz24_0 := zJ BK253.out 0; have hfz24_1 := zJ BK253.out 1; have hfz24_2 := zJ BK253.out 2; have hfz24_3 := zJ BK253.out 3; have hfz24_4 := zJ BK253.out 4) | (go_at_call 143; (with_reducible refine (impl_Frame_areComps.calls k a0_0 a0_1 a0_2 a0_3 _ _ l0_4 _ _ l1_0 false _ ?side1 ?side2 ?side3 ?side4 A5.out).mono ?_); (case side1 => repeat (first | exact (Kd.C_below HR0_4.out HB.out) | (with_reducible refine yN ?_ _) | (with_reducible refine yL ?_ _) | (with_reducible refine yM ?_))); (case side2 => exact HC0_4.out); (case side3 => repeat (first | exact (Kd.C_below HR1_0.out HB.out) | (with_reducible refine yN ?_ _) | (with_reducible refine yL ?_ _) | (with_reducible refine yM ?_))); (case side4 => exact HC1_0.out); rintro e w25 ⟨rfl, hb⟩; have n0_ := zA (blk_below (g := gb252) (o := .cells #[.int .i64 a0_0, .int .i64 a0_1, .int .i64 a0_2, .int .i64 a0_3, .slice A0_4 l0_4.length c0_4] 26 (0, 0)) (by (with_reducible repeat (first | refine zG ?_ _ | refine zH ?_ | refine zD ?_ _)); exact BK252.out) hb); have n1_ := zA (blk_below (g := gb253) (o := .cells #[.slice A1_0 l1_0.length c1_0, .int .i64 a1_1, .int .i64 a1_2, .int .i64 a1_3, .int .i64 a1_4] 38 (0, 0)) (by (with_reducible repeat (first | refine zG ?_ _ | refine zH ?_ | refine zD ?_ _)); exact BK253.out) hb); have n2_ := zA (below_step (by repeat (first | (with_reducible first | exact HB.out | apply zC | apply zB | apply zF | refine zE ?_ GE252.out | refine zE ?_ GE253.out) | exact HB.out)) hb); clear BK252; clear BK253; clear HB; have BK252 := n0_; have BK253 := n1_; have HB := n2_; clear n0_ n1_ n2_; (try clear hb); (try clear hb2); (try clear hk); (try clear hi)))
   go_ret
   exact ⟨by first | rfl | (simp [errW_none, errW_some] <;> rfl) | (simp [*, errW_none, errW_some] <;> rfl), by repeat (first | (with_reducible first | exact HB.out | apply zC | apply zB | apply zF | refine zE ?_ GE252.out | refine zE ?_ GE253.out) | exact HB.out)⟩
 ·replace c4 := Bool.eq_false_iff.mpr c4
  subst c4
  have H1 : (some false) = some r := by rw [if_neg (show ¬ (false = true) by decide)] at H; exact H
  clear H
  have H := H1
  clear H1
  obtain rfl := Option.some.inj H
  go_enter Try.func111, Try.ntmps111
  go_wp2_with (first | ((with_reducible refine gate_dst (N := 2) rfl ?_); refine box_event ?hg (N := 2) ?hd (cs := #[.int .i64 a0_0, .int .i64 a0_1, .int .i64 a0_2, .int .i64 a0_3, .slice A0_4 l0_4.length c0_4]) (t := 26) ?hr ?_; (case hd => rfl); (case hg => rfl); (case hr => first | (go_simp; done) | (go_simp; rfl)); intro gb252 hg w26 hbox hb; have n0_ := zA (below_step (by repeat (first | (with_reducible first | exact HB.out | apply zC | apply zB | apply zF) | exact HB.out)) hb); have n1_ := zA (hbox); have n2_ := zA ((by rw [hg]; exact (zL (by repeat (first | (with_reducible first | exact HB.out | apply zC | apply zB | apply zF) | exact HB.out))) : w.heap.size ≤ gb252)); have n3_ := zA ((by rw [hg]; exact (zL (by repeat (first | (with_reducible first | exact HB.out | apply zC | apply zB | apply zF) | exact HB.out))) : w.heap.size ≤ gb252)); clear HB; have HB := n0_; have BK252 := n1_; have GW252 := n2_; have GE252 := n3_; clear n0_ n1_ n2_ n3_; clear hb hbox hg) | ((with_reducible refine gate_dst (N := 3) rfl ?_); refine box_event ?hg (N := 3) ?hd (cs := #[.slice A1_0 l1_0.length c1_0, .int .i64 a1_1, .int .i64 a1_2, .int .i64 a1_3, .int .i64 a1_4]) (t := 38) ?hr ?_; (case hd => rfl); (case hg => rfl); (case hr => first | (go_simp; done) | (go_simp; rfl)); intro gb253 hg w27 hbox hb; have n0_ := zA (blk_below (g := gb252) (o := .cells #[.int .i64 a0_0, .int .i64 a0_1, .int .i64 a0_2, .int .i64 a0_3, .slice A0_4 l0_4.length c0_4] 26 (0, 0)) (by (with_reducible repeat (first | refine zG ?_ _ | refine zH ?_ | refine zD ?_ _)); exact BK252.out) hb); have n1_ := zA (below_step (by repeat (first | (with_reducible first | exact HB.out | apply zC | apply zB | apply zF | refine zE ?_ GE252.out) | exact HB.out)) hb); have n2_ := zA (hbox); have n3_ := zA ((by rw [hg]; exact (zL (by repeat (first | (with_reducible first | exact HB.out | apply zC | apply zB | apply zF | refine zE ?_ GE252.out) | exact HB.out))) : w.heap.size ≤ gb253)); have n4_ := zA ((by rw [hg]; exact (zL (by repeat (first | (with_reducible first | exact HB.out | apply zC | apply zB | apply zF | refine zE ?_ GE252.out) | exact HB.out))) : w.heap.size ≤ gb253)); have n5_ := zA ((by rw [hg]; exact Nat.ne_of_lt (blk_lt (g := gb252) (o := .cells #[.int .i64 a0_0, .int .i64 a0_1, .int .i64 a0_2, .int .i64 a0_3, .slice A0_4 l0_4.length c0_4] 26 (0, 0)) (by (with_reducible repeat (first | refine zG ?_ _ | refine zH ?_ | refine zD ?_ _)); exact BK252.out)) : gb252 ≠ gb253)); have n6_ := zA ((by rw [hg]; exact Nat.ne_of_gt (blk_lt (g := gb252) (o := .cells #[.int .i64 a0_0, .int .i64 a0_1, .int .i64 a0_2, .int .i64 a0_3, .slice A0_4 l0_4.length c0_4] 26 (0, 0)) (by (with_reducible repeat (first | refine zG ?_ _ | refine zH ?_ | refine zD ?_ _)); exact BK252.out)) : gb253 ≠ gb252)); clear BK252; clear HB; have BK252 := n0_; have HB := n1_; have BK253 := n2_; have GW253 := n3_; have GE253 := n4_; have NB252_253 := n5_; have NB253_252 := n6_; clear n0_ n1_ n2_ n3_ n4_ n5_ n6_; clear hb hbox hg; have hnb28 := NB252_253.out; have hnc28 := NB253_252.out; have hcz29_0 : w27.cell? ⟨gb252, 0, none⟩ = some (.int .i64 a0_0) := (zK BK252.out 0).trans rfl; have hcz29_1 : w27.cell? ⟨gb252, 1, none⟩ = some (.int .i64 a0_1) := (zK BK252.out 1).trans rfl; have hcz29_2 : w27.cell? ⟨gb252, 2, none⟩ = some (.int .i64 a0_2) := (zK BK252.out 2).trans rfl; have hcz29_3 : w27.cell? ⟨gb252, 3, none⟩ = some (.int .i64 a0_3) := (zK BK252.out 3).trans rfl; have hcz29_4 : w27.cell? ⟨gb252, 4, none⟩ = some (.slice A0_4 l0_4.length c0_4) := (zK BK252.out 4).trans rfl; have hfz29_0 := zJ BK252.out 0; have hfz29_1 := zJ BK252.out 1; have hfz29_2 := zJ BK252.out 2; have hfz29_3 := zJ BK252.out 3; have hfz29_4 := zJ BK252.out 4) | ((with_reducible refine gate_callee (f := 52) rfl ?_); refine goesL_ (some 6) rfl rfl Try.func52 (by kernel_rfl) rfl #[.agg #[.int .i64 a0_0, .int .i64 a0_1, .int .i64 a0_2, .int .i64 a0_3, .slice A0_4 l0_4.length c0_4]] rfl (by (try simp only [zU, zV, zW]); first | done | rfl | (simp only [zR, zQ]; rfl)) ?_; (with_reducible refine (impl_FrameOk.calls a0_0 a0_1 a0_2 a0_3 _ _ l0_4 false _ ?side1 ?side2 A3.out).mono ?_); (case side1 => repeat (first | exact (Kd.C_below HR0_4.out HB.out) | (with_reducible refine yN ?_ _) | (with_reducible refine yL ?_ _) | (with_reducible refine yM ?_))); (case side2 => exact HC0_4.out); rintro e w30 ⟨rfl, hb⟩; refine ⟨_, rfl, ?_⟩; have n0_ := zA (blk_below (g := gb252) (o := .cells #[.int .i64 a0_0, .int .i64 a0_1, .int .i64 a0_2, .int .i64 a0_3, .slice A0_4 l0_4.length c0_4] 26 (0, 0)) (by (with_reducible repeat (first | refine zG ?_ _ | refine zH ?_ | refine zD ?_ _)); exact BK252.out) hb); have n1_ := zA (blk_below (g := gb253) (o := .cells #[.slice A1_0 l1_0.length c1_0, .int .i64 a1_1, .int .i64 a1_2, .int .i64 a1_3, .int .i64 a1_4] 38 (0, 0)) (by (with_reducible repeat (first | refine zG ?_ _ | refine zH ?_ | refine zD ?_ _)); exact BK253.out) hb); have n2_ := zA (below_step (by repeat (first | (with_reducible first | exact HB.out | apply zC | apply zB | apply zF | refine zE ?_ GE252.out | refine zE ?_ GE253.out) | exact HB.out)) hb); clear BK252; clear BK253; clear HB; have BK252 := n0_; have BK253 := n1_; have HB := n2_; clear n0_ n1_ n2_; (try clear hb); (try clear hb2); (try clear hk); (try clear hi)))
  go_ret
  exact ⟨by first | rfl | (simp [errW_none, errW_some] <;> rfl) | (simp [*, errW_none, errW_some] <;> rfl), by repeat (first | (with_reducible first | exact HB.out | apply zC | apply zB | apply zF | refine zE ?_ GE252.out | refine zE ?_ GE253.out) | exact HB.out)⟩
theorem impl_areComps.l0_ev (a0_0 a0_1 a0_2 a0_3 : Int) (l0_4 : List S102) (hF : frameOkM a0_0 a0_1 a0_2 a0_3 l0_4 = true) (l : List Int) (hl : l.length ≤ 2000000) : ∀ (d i : Nat), i + d = l.length → Ev (fun k => impl_Frame_areComps.l0 k l l (l.length : Int) (i : Int) a0_0 a0_1 a0_2 a0_3 l0_4) (cgo l0_4.length l i d && decide (0 < l.length)) := by
 have hn : 1 ≤ l0_4.length ∧ l0_4.length ≤ 4 := by
  unfold frameOkM at hF
  rw [Bool.and_eq_true] at hF
  have := frameHead_len hF.1
  omega
 intro d
 induction d with
 | zero =>
  intro i hi
  refine Ev.step (fun _ => by rw [impl_Frame_areComps.l0]) (Ev.ng (by omega) (Ev.eq (Ev.now _) ?_))
  rw [cgo, Bool.true_and]
  congr 1
  rw [eq_iff_iff]; omega
 | succ d ih =>
  intro i hi
  have hlt : i < l.length := by omega
  refine Ev.step (fun _ => by rw [impl_Frame_areComps.l0]) (Ev.ip (by omega) (Ev.ip (by omega) (Ev.ip (by omega) ?_)))
  have hv : impl_Frame_has.f a0_0 a0_1 a0_2 a0_3 l0_4 (rd l i) = some (decide (0 ≤ rd l i) && decide (rd l i ≤ (l0_4.length : Int) - 1)) := by
   unfold impl_Frame_has.f impl_FrameOk.f
   rw [hF, zS, if_pos rfl, wrap_in _ (by omega) (by omega), impl_within.val]; rfl
  refine Ev.bind (Ev.c hv) ?_
  rw [cgo]
  by_cases ha : (decide (0 ≤ rd l i) && decide (rd l i ≤ (l0_4.length : Int) - 1)) = true
  ·refine Ev.ip ha ?_
   rw [ha, Bool.true_and]
   by_cases h0 : i = 0
   ·refine Ev.ng (by omega) ?_
    rw [wrap_succ i (by omega), zT h0, Bool.true_or, Bool.true_and]
    exact ih (i + 1) (by omega)
   ·refine Ev.ip (by omega) ?_
    rw [wrap_in ((i : Int) - 1) (by omega) (by omega), decide_eq_false h0, Bool.false_or]
    refine Ev.ip (by omega) (Ev.ip (by omega) ?_)
    by_cases hr : rd l ((i : Int) - 1) < rd l i
    ·refine Ev.ng (by omega) ?_
     rw [wrap_succ i (by omega), zT hr, Bool.true_and]
     exact ih (i + 1) (by omega)
    ·refine Ev.ip (by omega) (Ev.eq (Ev.now _) ?_)
     rw [decide_eq_false hr, Bool.false_and, Bool.false_and]
  ·refine Ev.ng ha (Ev.eq (Ev.now _) ?_)
   rw [Bool.eq_false_iff.2 ha, Bool.false_and, Bool.false_and]
theorem impl_isPass.val (l : List Int) (fr te hi lo : Int) : impl_Scan_isPass.f l fr te hi lo = some (passM fr te hi lo) := by
 unfold impl_Scan_isPass.f passM
 simp only [impl_within.val, zS]
 by_cases h1 : 0 ≤ te <;> by_cases h2 : te ≤ 63 <;> by_cases h3 : 0 ≤ fr <;> by_cases h4 : fr ≤ te <;> by_cases h5 : 0 ≤ lo <;> by_cases h6 : lo ≤ 13
 all_goals simp only [h1, h2, h3, h4, h5, h6, decide_true, decide_false, Bool.and_true, Bool.true_and, Bool.false_and, Bool.and_false, if_true, if_false, Bool.false_eq_true]
 all_goals first | rfl | (exfalso; omega) | skip
 all_goals
  rw [wrap_in (lo + 1) (by omega) (by omega)]
  by_cases h7 : hi = 0
  ·rw [if_pos h7, zT h7, Bool.true_or]
  ·rw [if_neg h7, decide_eq_false h7, Bool.false_or]; rfl
theorem impl_ScanOk.ev (a0_0 a0_1 a0_2 a0_3 : Int) (l0_4 : List S102) (l : List Int) (fr te hi lo : Int) (hF : frameOkM a0_0 a0_1 a0_2 a0_3 l0_4 = true) (hl : l.length ≤ 2000000) : Ev (fun k => impl_ScanOk.f k a0_0 a0_1 a0_2 a0_3 l0_4 l fr te hi lo) (scanOkM l0_4.length ⟨l, fr, te, hi, lo⟩) := by
 unfold impl_ScanOk.f
 refine Ev.bind (Ev.c (show impl_FrameOk.f a0_0 a0_1 a0_2 a0_3 l0_4 = some true by unfold impl_FrameOk.f; rw [hF])) (Ev.ip rfl (Ev.bind (impl_areComps.l0_ev a0_0 a0_1 a0_2 a0_3 l0_4 hF l hl l.length 0 (Nat.zero_add _)) ?_))
 show Ev _ (compsOkM l0_4.length l && passM fr te hi lo)
 by_cases h : (cgo l0_4.length l 0 l.length && decide (0 < l.length)) = true
 ·rw [show compsOkM l0_4.length l = true from h, Bool.true_and]
  exact Ev.ip h (Ev.bind (Ev.c (impl_isPass.val l fr te hi lo)) (Ev.now _))
 ·rw [show compsOkM l0_4.length l = false from Bool.eq_false_iff.2 h, Bool.false_and]
  exact Ev.ng h (Ev.now _)
end Go.Proofs.Ytilimpjcdeeaiaa.G


namespace Go.Proofs.Ytilimpjcdeeaiaa.G
open Go.RowKit Go.Proofs.YtilimpjcdeeaiaaW.PrintWords Go.Proofs.YtilimpjcdeeaiaaW.PrintLast Go.Proofs.YtilimpjcdeeaiaaW.PrintMore
attribute [local go_sem] max2_int min2_int max_two min_two max_three min_three max_four min_four   -- for this text's walks alone
theorem S_rowput {tI tR g n cap base : Nat} {W : World} {ok : Nat → Prop} {xs : List (List Int)} (h : Kd.S (Kd.slice tI (Kd.int .i64)) tR W base ok (.slice (some ⟨g, 0, none⟩) n cap) xs) (i j : Nat) (hi : i < n) (hj : j < (xs.getD i []).length) :
  ∃ b cp, W.cell? ⟨g, i, none⟩ = some (.slice (some ⟨b, 0, none⟩) (xs.getD i []).length cp) ∧ W.cell? ⟨b, j, none⟩ = some (.int .i64 (rd (xs.getD i []) j)) ∧ W.frozen? ⟨b, j, none⟩ = false ∧ base ≤ b ∧ ok b ∧ (∃ cells, W.heap[b]? = some (.cells cells tI (0, 0))) ∧
   ∀ v : Int, Kd.S (Kd.slice tI (Kd.int .i64)) tR (W.setCell ⟨b, j, none⟩ (.int .i64 v)) base ok (.slice (some ⟨g, 0, none⟩) n cap) (xs.set i ((xs.getD i []).set j v)) ∧ W.grownBy (W.setCell ⟨b, j, none⟩ (.int .i64 v)) (some b) := by
 obtain ⟨oki, c, hcl, hM, hcc, hoki, hH⟩ := Kd.S_lend h [] (i : Int) (by omega) (by omega)
 obtain ⟨ve, rfl, hRe⟩ := hM
 have hx := hcc 0 ve rfl
 rw [show (Kd.slice tI (Kd.int .i64)).sz = 1 from rfl, Nat.mul_one, Nat.add_zero, Int.toNat_natCast] at hx
 rw [Int.toNat_natCast] at hRe
 obtain ⟨b, cp, rfl, hb, hlt, hcells⟩ := Kd.R_form hRe (by omega)
 have h1 := Kd.R_celln (0 : Int) hRe (j : Int) (by omega) (by omega)
 rw [Int.toNat_natCast] at h1
 have hokb : oki b := hRe.1 b rfl
 refine ⟨b, cp, hx, ?_, h1.2, hb, (hoki b hokb).1, hcells, fun v => ?_⟩
 ·rw [h1.1]
  simp [rdOf, rd]
 ·have h2 := Kd.R_putg hRe (j : Int) v
  rw [Int.toNat_natCast] at h2
  refine ⟨?_, h2.2⟩
  have h3 := Kd.H_back (Kd.H_grown hH h2.2 (fun k hk => by injection hk with hk; subst hk; exact hokb)) (Kd.M_row h2.1) (fun _ hk => hk)
  rwa [Int.toNat_natCast] at h3
end Go.Proofs.Ytilimpjcdeeaiaa.G


namespace Go.Proofs.Ytilimpjcdeeaiaa.G
open Go.RowKit Go.Proofs.YtilimpjcdeeaiaaW.PrintWords Go.Proofs.YtilimpjcdeeaiaaW.PrintLast Go.Proofs.YtilimpjcdeeaiaaW.PrintMore
attribute [local go_sem] max2_int min2_int max_two min_two max_three min_three max_four min_four   -- for this text's walks alone
abbrev dRows : Kd (List Int) := Kd.slice 3 (Kd.int .i64)
def TellK (w0 : World) (gl cl n gs : Nat) (ok : Nat → Prop) (A1 : Option Addr) (c1 : Nat) (cs : List Int) (f t : Nat) (hi lo : Int) (L : List (List Int)) (w' : World) : Prop :=
 Kd.S dRows 36 w' w0.heap.size ok (.slice (some ⟨gl, 0, none⟩) n cl) L ∧ Below w0.heap.size w0 w' ∧ w'.heap[gs]? = some (.cells #[.slice A1 cs.length c1, .int .i64 (f : Int), .int .i64 (t : Int), .int .i64 hi, .int .i64 lo] 38 (0, 0)) ∧ Rows64 n L
def TellPost (w0 : World) (gl cl n : Nat) (left : List (List Int)) (ok : Nat → Prop) (cs : List Int) (f t : Nat) (hi lo : Int) (e : Ending) (w' : World) : Prop :=
 ∃ (b : Bool) (left' : List (List Int)), e = .returned (.bool b) ∧ Kd.S dRows 36 w' w0.heap.size ok (.slice (some ⟨gl, 0, none⟩) n cl) left' ∧ Below w0.heap.size w0 w' ∧ Rows64 n left' ∧ tellC (if hi > 0 then hi else -1) lo f (t - f + 1) cs left = if b then some left' else none
set_option maxRecDepth 100000 in
set_option maxHeartbeats 4000000 in
theorem tell_calls (w0 w : World) (gl cl n : Nat) (left : List (List Int)) (ok : Nat → Prop) (A1 : Option Addr) (c1 : Nat) (cs : List Int) (f t : Nat) (hi lo : Int) (hS : Kd.S dRows 36 w w0.heap.size ok (.slice (some ⟨gl, 0, none⟩) n cl) left) (hB : Below w0.heap.size w0 w) (hR : Kd.C (Kd.int .i64) w0 A1 cs.length cs) (hc : cs.length ≤ c1) (hL : Rows64 n left) (ft : f ≤ t) (t63 : t ≤ 63) (hcs : ∀ c ∈ cs, 0 ≤ c ∧ c < n) (hm : cs.length ≤ 100) :
  Calls Try.prog 113 #[.slice (some ⟨gl, 0, none⟩) n cl, .agg #[.slice A1 cs.length c1, .int .i64 (f : Int), .int .i64 (t : Int), .int .i64 hi, .int .i64 lo]] w (TellPost w0 gl cl n left ok cs f t hi lo) := by
 have HR := zA hR
 have HC := zA hc
 have HCS := zA hcs
 have HS := zA hS
 have HB := zA hB
 have HL := zA hL
 clear hR hc hcs hS hB hL
 go_enter Try.func113, Try.ntmps113
 go_upto_region 1 with (fail)
 have k1 := blk_new w (Obj.cells #[.slice A1 cs.length c1, .int .i64 (f : Int), .int .i64 (t : Int), .int .i64 hi, .int .i64 lo] 38)
 have hS1 := Kd.S_old HS.out (zC (Below.refl w.heap.size w) (Obj.cells #[.slice A1 cs.length c1, .int .i64 (f : Int), .int .i64 (t : Int), .int .i64 hi, .int .i64 lo] 38))
 have HK := zA (show TellK w0 gl cl n w.heap.size (fun k => ok k ∧ k < w.heap.size) A1 c1 cs f t hi lo left (w.alloc (Obj.cells #[.slice A1 cs.length c1, .int .i64 (f : Int), .int .i64 (t : Int), .int .i64 hi, .int .i64 lo] 38)) from ⟨hS1, zC HB.out _, k1, HL.out⟩)
 clear k1 hS1 HS HB HL
 generalize w.alloc (Obj.cells #[.slice A1 cs.length c1, .int .i64 (f : Int), .int .i64 (t : Int), .int .i64 hi, .int .i64 lo] 38) = W1 at HK ⊢
 generalize w.heap.size = gs at HK ⊢
 have q3 := zK HK.out.2.2.1 3
 have q0 := zK HK.out.2.2.1 0
 simp at q3 q0
 obtain ⟨want, hwant⟩ : ∃ z, z = (if hi > 0 then hi else -1) := ⟨_, rfl⟩
 have HW := zA hwant
 by_cases hpos : 0 < hi
 all_goals
  (first | (have hw2 : want = hi := by rw [hwant, if_pos hpos]) | (have hw2 : want = -1 := by rw [hwant, if_neg hpos]))
  (first | (have hd : decide (0 < hi) = true := zT hpos) | (have hd : decide (0 < hi) = false := decide_eq_false hpos))
  clear hwant hpos
  go_wp2
  clear q3 q0 hd
  go_loopw [17] (fun v17 w' => ∃ (i : Nat) (L : List (List Int)), v17 = .int .i64 i ∧ i ≤ cs.length ∧ Aside0 (TellK w0 gl cl n gs (fun k => ok k ∧ k < gs) A1 c1 cs f t hi lo L w') ∧ Aside0 (tellC want lo f (t - f + 1) (cs.drop i) L = tellC want lo f (t - f + 1) cs left)) (fun v17 w' => cs.length - (intOf v17).toNat)
  case atStart => exact ⟨0, left, rfl, Nat.zero_le _, HK, ⟨by rw [List.drop_zero]⟩⟩
  case round =>
   clear HK
   obtain ⟨i, L, rfl, hil, HK, HG⟩ := hrel
   obtain ⟨hs_, hb_, hk_, h64⟩ := HK.out
   by_cases hlt : i < cs.length
   ·obtain ⟨ad, rfl, hcell⟩ := Kd.at_int HR.out (i : Int) (by omega) (by omega)
    rw [Int.toNat_natCast, rd_nat cs i hlt] at hcell
    replace hcell := (hb_.cell (World.block_lt_of_cell? w0 _ hcell)).trans hcell
    obtain ⟨c0, c9⟩ := HCS.out cs[i] (List.getElem_mem hlt)
    obtain ⟨c, hce⟩ : ∃ c : Nat, cs[i] = (c : Int) := ⟨cs[i].toNat, by omega⟩
    rw [hce] at hcell c9
    have hcn : c < n := by omega
    have HG2 := zA (show (tellK want lo c (t - f + 1) f L).bind (tellC want lo f (t - f + 1) (cs.drop (i + 1))) = tellC want lo f (t - f + 1) cs left by rw [← HG.out, List.drop_eq_getElem_cons hlt, hce]; rfl)
    have q1 := zK hk_ 1
    simp at q1
    have HK2 := zA (show TellK w0 gl cl n gs (fun k => ok k ∧ k < gs) (some ad) c1 cs f t hi lo L wr from ⟨hs_, hb_, hk_, h64⟩)
    clear HK HG hs_ hb_ hk_ h64 c0 c9 hce
    go_wp2
    go_loopw [8] (fun v8 w' => ∃ (k : Nat) (L2 : List (List Int)), v8 = .int .i64 k ∧ k ≤ t + 1 ∧ Aside0 (TellK w0 gl cl n gs (fun k => ok k ∧ k < gs) (some ad) c1 cs f t hi lo L2 w') ∧ Aside0 ((tellK want lo c (t + 1 - k) k L2).bind (tellC want lo f (t - f + 1) (cs.drop (i + 1))) = tellC want lo f (t - f + 1) cs left)) (fun v8 w' => t + 1 - (intOf v8).toNat)
    case atStart => exact ⟨f, L, rfl, by omega, HK2, ⟨by rw [show t + 1 - f = t - f + 1 by omega]; exact HG2.out⟩⟩
    case round =>
     clear HK2 HG2 hcell q1
     obtain ⟨k, L2, rfl, hkt, HK, HG⟩ := hrel
     obtain ⟨hs_, hb_, hk_, h64⟩ := HK.out
     have q2 := zK hk_ 2
     have q4 := zK hk_ 4
     simp at q2 q4
     by_cases hlt2 : k ≤ t
     ·obtain ⟨b, cp, hx, hy, hfz, hbb, hob, ⟨cells, hcl⟩, hput⟩ := S_rowput hs_ c k hcn (by rw [h64.get c hcn]; omega)
      obtain ⟨hput1, hput2⟩ := hput lo
      rw [h64.get c hcn] at hx
      have hbg : b ≠ gs := by have := hob.2; omega
      have HK3 := zA (show TellK w0 gl cl n gs (fun k => ok k ∧ k < gs) (some ad) c1 cs f t hi lo (L2.set c ((L2.getD c []).set k lo)) (wr.setCell ⟨b, k, none⟩ (.int .i64 lo)) from ⟨hput1, zE hb_ hbb, (Below.heap_setCell _ _ _ gs (fun e => hbg e.symm)).trans hk_, h64.set c k lo hcn⟩)
      obtain ⟨y, hye⟩ : ∃ y, y = rd (L2.getD c []) (k : Int) := ⟨_, rfl⟩
      rw [← hye] at hy
      have HYE := zA hye
      have HS4 := zA (yH hs_ (ok' := ok) (fun _ hk => hk.1))
      have HB4 := zA hb_
      have H644 := zA h64
      clear hput1 hput2 hput hob hcl hbb hs_ hb_ hk_ h64 hye HK
      by_cases hq : y = want
      ·have hne : (y != want) = false := bne_eq_false_iff_eq.mpr hq
       rw [hw2] at hne
       have HG3 := zA (show (tellK want lo c (t + 1 - (k + 1)) (k + 1) (L2.set c ((L2.getD c []).set k lo))).bind (tellC want lo f (t - f + 1) (cs.drop (i + 1))) = tellC want lo f (t - f + 1) cs left by rw [← HG.out, show t + 1 - k = (t + 1 - (k + 1)) + 1 by omega, tellK, if_pos (by rw [← HYE.out]; exact hq)])
       clear HG hq
       go_wp2
       go_region
       go_wp2
       go_roundw
       case rel => exact ⟨k + 1, L2.set c ((L2.getD c []).set k lo), by go_num, by omega, ⟨by obtain ⟨z1, z2, z3, z4⟩ := HK3.out; exact ⟨by repeat (first | exact z1 | apply yF | apply yG), by repeat (first | exact z2 | apply zB | apply below_drew), by repeat (first | exact z3 | apply zG | apply zH), z4⟩⟩, HG3⟩
       case measure => simp [intOf]; omega
      ·have hne : (y != want) = true := bne_iff_ne.mpr hq
       rw [hw2] at hne
       have HE := zA (show tellC (if hi > 0 then hi else -1) lo f (t - f + 1) cs left = if false then some L2 else none by rw [← HW.out, ← HG.out, show t + 1 - k = (t + 1 - (k + 1)) + 1 by omega, tellK, if_neg (by rw [← HYE.out]; exact hq)]; rfl)
       clear HG hq
       go_wp2
       go_ret
       exact ⟨false, L2, rfl, by repeat (first | exact HS4.out | apply yF | apply yG), by repeat (first | exact HB4.out | apply zB | apply below_drew), H644.out, HE.out⟩
     ·obtain rfl : k = t + 1 := by omega
      have HG3 := zA (show tellC want lo f (t - f + 1) (cs.drop (i + 1)) L2 = tellC want lo f (t - f + 1) cs left by rw [← HG.out, Nat.sub_self]; rfl)
      have HK3 := zA (show TellK w0 gl cl n gs (fun k => ok k ∧ k < gs) (some ad) c1 cs f t hi lo L2 wr from ⟨hs_, hb_, hk_, h64⟩)
      clear HG HK hs_ hb_ hk_ h64
      go_wp2
      go_roundw
      case rel => exact ⟨i + 1, L2, by go_num, by omega, HK3, HG3⟩
      case measure => simp [intOf]; omega
   ·obtain rfl : i = cs.length := by omega
    have HE := zA (show tellC (if hi > 0 then hi else -1) lo f (t - f + 1) cs left = if true then some L else none by rw [← HW.out, ← HG.out, List.drop_length]; rfl)
    have HS2 := zA (yH hs_ (ok' := ok) (fun _ hk => hk.1))
    have HB2 := zA hb_
    have H64 := zA h64
    clear HK HG hs_ hb_ hk_ h64
    go_wp2
    go_ret
    exact ⟨true, L, rfl, by repeat (first | exact HS2.out | apply yF | apply yG), by repeat (first | exact HB2.out | apply zB | apply below_drew), H64.out, HE.out⟩
end Go.Proofs.Ytilimpjcdeeaiaa.G


namespace Go.Proofs.Ytilimpjcdeeaiaa.G
open Go.RowKit Go.Proofs.YtilimpjcdeeaiaaW.PrintWords Go.Proofs.YtilimpjcdeeaiaaW.PrintLast Go.Proofs.YtilimpjcdeeaiaaW.PrintMore
attribute [local go_sem] max2_int min2_int max_two min_two max_three min_three max_four min_four   -- for this text's walks alone
def ScanP (w : World) (fn : Nat) (caps : Array Value) (D : S38 → Prop) (P : S38 → Bool) : Prop :=
 (∀ (args : Array Value) (W1 : World), Sem.run Try.prog (callFunc fn args) W1 = Result.ok (Next.enter fn args) W1) ∧
 ∀ (A1 : Option Addr) (c1 : Nat) (x : S38) (W1 : World), Below w.heap.size w W1 → D x → Kd.C (Kd.int .i64) W1 A1 x.f0.length x.f0 → x.f0.length ≤ c1 → Calls Try.prog fn (#[.agg #[.slice A1 x.f0.length c1, .int .i64 x.f1, .int .i64 x.f2, .int .i64 x.f3, .int .i64 x.f4]] ++ caps) W1 fun e w' => e = .returned (.bool (P x)) ∧ Below W1.heap.size W1 w'
theorem ScanP.at_ {w W : World} {fn : Nat} {caps : Array Value} {D : S38 → Prop} {P : S38 → Bool} (h : ScanP w fn caps D P) (hb : Below w.heap.size w W) : ScanP W fn caps D P :=
 ⟨h.1, fun _ _ x W1 hW => h.2 _ _ x W1 (Below.trans hb (Below.mono hW hb.size))⟩
set_option maxRecDepth 100000 in
set_option maxHeartbeats 4000000 in
theorem idx_ScanP (fn : Nat) (caps : Array Value) (D : S38 → Prop) (P : S38 → Bool) (A0 : Option Addr) (c0 : Nat) (l0 : List S38) (w : World) (hS : ScanP w fn caps D P) (hD : ∀ x ∈ l0, D x) (hr0 : Kd.C k38 w A0 l0.length l0) (hc0 : l0.length ≤ c0) (hm : l0.length ≤ 100000000) :
  Calls Try.prog 142 #[.slice A0 l0.length c0, .func (.func fn) #[] caps] w fun e w' => ∃ r : Int, e = .returned (.int .i64 r) ∧ (0 ≤ r ↔ l0.any P = true) ∧ Below w.heap.size w w' := by
 have HR0 := zA hr0
 have HC0 := zA hc0
 have HS := zA hS
 have HD := zA hD
 clear hr0 hc0 hS hD
 have HB0 := zA (Below.refl w.heap.size w)
 go_enter Try.func142, Try.ntmps142
 go_wp2
 go_loopw [8] (fun i w' => ∃ k : Nat, i = .int .i64 k ∧ k ≤ l0.length ∧ Aside0 ((l0.take k).any P = false) ∧ Aside0 (Below w.heap.size w w')) (fun i w' => l0.length - (intOf i).toNat)
 case atStart => exact ⟨0, rfl, by omega, ⟨by simp⟩, by first | exact HB0 | exact ⟨by repeat (first | exact HB0.out | apply zB | apply below_drew)⟩⟩
 case round =>
  clear HB0
  obtain ⟨k, rfl, hk, HA, HB⟩ := hrel
  by_cases hlt : k < l0.length
  ·obtain ⟨ad, A1, c1, e1, hx0, hx1, hx2, hx3, hx4, hl, hi⟩ := at_T38 (Kd.C_below HR0.out HB.out) (k : Int) (by omega) (by omega)
   cases e1
   rw [Int.toNat_natCast] at hx0 hx1 hx2 hx3 hx4
   have HR1 := zA hi; have HC1 := zA hl; clear hi hl
   have hgl : rd_T38 l0 k = l0[k] := by simp [rd_T38, hlt]
   cases hp : P (rd_T38 l0 k)
   all_goals
    have HP := zA hp
    have HG := zA hgl
    clear hp hgl
    go_wp2_with fail
    rw [HS.out.1]
    simp only [Oper.upon_enter]
    have HBW := zA (show Below w.heap.size w _ from by first | exact HB.out | (repeat (first | exact HB.out | apply zB | apply below_drew)))
    refine (HS.out.2 A1 c1 (rd_T38 l0 k) wr HB.out (by rw [HG.out]; exact HD.out _ (List.getElem_mem _)) HR1.out HC1.out).mono ?_
    rw [HP.out]
    rintro e w' ⟨rfl, hb2⟩
    have HB2 := zA (Below.trans HB.out (Below.mono hb2 HB.out.size))
    clear hb2
   ·go_wp2
    go_roundw
    case rel => exact ⟨k + 1, by go_num, by omega, ⟨by rw [List.take_succ_eq_append_getElem hlt, List.any_append, HA.out]; simp [← HG.out, HP.out]⟩, by first | exact HB2 | exact ⟨by repeat (first | exact HB2.out | apply zB | apply below_drew)⟩⟩
    case measure => simp [intOf]; omega
   ·go_wp2
    go_ret
    exact ⟨_, rfl, by simp only [Int.natCast_nonneg, true_iff]; rw [List.any_eq_true]; exact ⟨l0[k], List.getElem_mem _, by rw [← HG.out, HP.out]⟩, by repeat (first | exact HB2.out | apply zB | apply below_drew)⟩
  ·obtain rfl : k = l0.length := by omega
   go_wp2
   go_ret
   exact ⟨_, rfl, by have := HA.out; rw [List.take_length] at this; simp [this], by repeat (first | exact HB.out | apply zB | apply below_drew)⟩
set_option maxRecDepth 100000 in
set_option maxHeartbeats 4000000 in
theorem cont_ScanP (fn : Nat) (caps : Array Value) (D : S38 → Prop) (P : S38 → Bool) (A0 : Option Addr) (c0 : Nat) (l0 : List S38) (w : World) (hS : ScanP w fn caps D P) (hD : ∀ x ∈ l0, D x) (hr0 : Kd.C k38 w A0 l0.length l0) (hc0 : l0.length ≤ c0) (hm : l0.length ≤ 100000000) :
  Calls Try.prog 109 #[.slice A0 l0.length c0, .func (.func fn) #[] caps] w fun e w' => e = .returned (.bool (l0.any P)) ∧ Below w.heap.size w w' := by
 have HR0 := zA hr0
 have HC0 := zA hc0
 have HS := zA hS
 have HD := zA hD
 clear hr0 hc0 hS hD
 cases ha : l0.any P
 all_goals
  have HAA := zA ha
  clear ha
  go_enter Try.func109, Try.ntmps109
  go_wp2_with (first | (go_at_call 142; (with_reducible refine (idx_ScanP fn caps D P _ _ l0 _ HS.out HD.out ?side1 ?side2 hm).mono ?_); (case side1 => exact HR0.out); (case side2 => exact HC0.out); rintro e w' ⟨r, rfl, hq, hb⟩; have HB := zA hb; clear hb; rw [HAA.out] at hq; (first | have hq2 : 0 ≤ r := hq.2 rfl | have hq2 : ¬ 0 ≤ r := fun z => absurd (hq.1 z) (by decide)); clear hq))
  go_ret
  exact ⟨by simp [hq2], by repeat (first | exact HB.out | apply zB | apply below_drew)⟩
end Go.Proofs.Ytilimpjcdeeaiaa.G

