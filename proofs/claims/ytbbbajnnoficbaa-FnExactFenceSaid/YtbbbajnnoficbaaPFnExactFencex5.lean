-- by a patched copy of the print (wip/tools/patch_print.py)
import Derived.Test.YtbbbajnnoficbaaPFnExactFencex0
import Derived.Test.YtbbbajnnoficbaaPFnExactFencex4
namespace Go.Proofs.Ytbbbajnnoficbaa.PFnExactFence
open Go.RowKit Go.Proofs.YtbbbajnnoficbaaW.PrintWords Go.Proofs.YtbbbajnnoficbaaW.PrintLast Go.Proofs.YtbbbajnnoficbaaW.PrintMore
attribute [local go_sem] max2_int min2_int max_two min_two max_three min_three max_four min_four   -- for this text's walks alone
set_option linter.unusedVariables false
set_option linter.unusedSimpArgs false

/-! ### spec_l2Fence: function 64 -/
theorem spec_l2Fence.rfar {w : World} {base : Nat} {v : Value} {xs : List S67} (h : Kd.R k67 67 w base (fun _ => True) v xs) {p : Addr} (hp : ∀ k, v.ownBlock = some k → k ≠ p.block) (u : Value) : Kd.R k67 67 (w.setCell p u) base (fun _ => True) v xs :=
  Kd.R_mono (Kd.R_far (Kd.R_tight rfl h) (fun k hk => hp k hk.symm) u) (fun _ _ => trivial)
theorem spec_l2Fence.rmove {w w1 : World} {base : Nat} {v : Value} {xs : List S67} (h : Kd.R k67 67 w base (fun _ => True) v xs) (hp : ∀ k, v.ownBlock = some k → w1.heap[k]? = w.heap[k]?) : Kd.R k67 67 w1 base (fun _ => True) v xs :=
  Kd.R_mono (Kd.R_step (Kd.R_tight rfl h) (fun k hk _ => hp k hk.symm)) (fun _ _ => trivial)
theorem spec_l2Fence.rne {w : World} {base g : Nat} {v : Value} {xs : List S67} {b : List UInt8} (h : Kd.R k67 67 w base (fun _ => True) v xs) (hb : Go.Proofs.YtbbbajnnoficbaaBts.BRow w g 5 b) : ∀ k, v.ownBlock = some k → k ≠ g := by
  rintro k hk rfl
  obtain ⟨cells, hc⟩ := Kd.R_typed h k hk
  obtain ⟨c, lo, hi, h1, _⟩ := hb
  rw [h1] at hc
  injection hc with hc
  injection hc with _ e _
  exact absurd e (by decide)
def spec_l2Fence.l : List S67 → List UInt8 → List S67 → Option (List UInt8 × List S67)
  | [], b, acc => some (b, acc)
  | x :: xs, b, acc => if 0 ≤ x.f0 ∧ 64 * x.f0 + 64 ≤ (b.length : Int) ∧ (x.f2.size : Int) ≤ 64 ∧ acc.length < 3518437208880 then (if x.f2.toList = x.f1.toList then spec_l2Fence.l xs (b.take (64 * x.f0).toNat ++ x.f2.data.toList ++ b.drop ((64 * x.f0).toNat + x.f2.data.toList.length)) acc else spec_l2Fence.l xs (b.take (64 * x.f0).toNat ++ x.f2.data.toList ++ b.drop ((64 * x.f0).toNat + x.f2.data.toList.length)) (acc ++ [⟨x.f0, x.f1, (⟨#[]⟩ : ByteArray)⟩])) else none
def spec_l2Fence.f (a0_0 : ByteArray) (l0_1 : List S67) : Option (ByteArray × (List S67)) := if (a0_0.size : Int) ≤ 9223372036854775807 then (spec_l2Fence.l l0_1 a0_0.data.toList []).map fun b => (⟨b.1.toArray⟩, b.2) else none
set_option maxHeartbeats 8000000 in
set_option maxRecDepth 1000000 in
theorem spec_l2Fence.calls (a0_0 : ByteArray) (A0_1 : Option Addr) (c0_1 : Nat) (l0_1 : List (S67)) (r1 : ByteArray) (r2 : List (S67)) (w : World) (hr0_1 : Kd.C k67 w A0_1 l0_1.length l0_1) (hc0_1 : l0_1.length ≤ c0_1) (h : spec_l2Fence.f a0_0 l0_1 = some (r1, r2)) :
    Calls Try.prog 64 #[.agg #[.string a0_0, .slice A0_1 l0_1.length c0_1]] w fun e w' => ∃ v1_ : Value, e = .returned (.agg #[.string r1, v1_]) ∧ Kd.R k67 67 w' w.heap.size (fun _ => True) v1_ r2 ∧ Below w.heap.size w w' := by
  have hu30 := Try.underlying30
  have hu67 := Try.underlying67
  have HR0_1 := Aside0.mk hr0_1
  have HL := Aside0.mk (Kd.C_max hr0_1)
  clear hr0_1 hc0_1
  have HB := Aside0.mk (Below.refl w.heap.size w)
  have HS : (a0_0.size : Int) ≤ 9223372036854775807 := by
    unfold spec_l2Fence.f at h; by_cases c : (a0_0.size : Int) ≤ 9223372036854775807
    · exact c
    · rw [if_neg c] at h; cases h
  obtain ⟨⟨b1, acc1⟩, hb1, hb2⟩ : ∃ b1, spec_l2Fence.l l0_1 a0_0.data.toList [] = some b1 ∧ ((⟨b1.1.toArray⟩ : ByteArray), b1.2) = (r1, r2) := by
    unfold spec_l2Fence.f at h; rw [if_pos HS] at h; exact Option.map_eq_some_iff.mp h
  obtain ⟨rfl, rfl⟩ := Prod.mk.inj hb2
  replace HS := Aside0.mk HS
  have H := Aside0.mk hb1
  clear h hb1 hb2
  go_enter Try.func64, Try.ntmps64
  go_wp2_with (first | ((with_reducible refine gate_dst (N := 1) rfl ?_); refine box_event ?hg (N := 1) ?hd (cs := #[.string a0_0, .slice A0_1 l0_1.length c0_1]) (t := 30) ?hr ?_; (case hd => rfl); (case hg => rfl); (case hr => first | (go_simp; done) | (go_simp; rfl)); intro gd hg w1 hbox hb; have n0_ := Aside0.mk (below_step HB.out hb); have n1_ := Aside0.mk hbox; have n3_ := Aside0.mk (by rw [hg]; exact (below_size HB.out) : w.heap.size ≤ gd); clear HB; have HB := n0_; have BK := n1_; have GE := n3_; clear n0_ n1_ n3_ hb hbox hg; have hcz0 : w1.cell? ⟨gd, 0, none⟩ = some (.string a0_0) := (blk_cell BK.out 0).trans rfl; have hcz1 : w1.cell? ⟨gd, 1, none⟩ = some (.slice A0_1 l0_1.length c0_1) := (blk_cell BK.out 1).trans rfl) | ((with_reducible refine gate_dst (N := 2) rfl ?_); refine box_event ?hg (N := 2) ?hd (cs := #[.string (⟨#[]⟩ : ByteArray), .slice none 0 0]) (t := 30) ?hr ?_; (case hd => rfl); (case hg => rfl); (case hr => first | (go_simp; done) | (go_simp; rfl)); intro gr hg w2 hbox hb; have n0_ := Aside0.mk (below_step HB.out hb); have n1_ := Aside0.mk hbox; have n2_ := Aside0.mk (blk_below BK.out hb); have n3_ := Aside0.mk (by rw [hg]; exact (below_size HB.out) : w.heap.size ≤ gr); have n4_ := Aside0.mk (by rw [hg]; exact (blk_lt BK.out) : gd < gr); clear HB BK hcz0 hcz1; have HB := n0_; have BKr := n1_; have BK := n2_; have GEr := n3_; have LTr := n4_; clear n0_ n1_ n2_ n3_ n4_ hb hbox hg; have hcz0 : w2.cell? ⟨gd, 0, none⟩ = some (.string a0_0) := (blk_cell BK.out 0).trans rfl; have hcz1 : w2.cell? ⟨gd, 1, none⟩ = some (.slice A0_1 l0_1.length c0_1) := (blk_cell BK.out 1).trans rfl) | ((with_reducible refine gate_dst (N := 9) rfl ?_); refine Go.Proofs.YtbbbajnnoficbaaBts.conv_event rfl 9 50 5 (.tmp 8) rfl a0_0 rfl Try.underlying9 Try.underlying50 Try.underlying5 ?_; intro g hg cap w3 hcap hbr hb; have n0_ := Aside0.mk (below_step HB.out hb); have n1_ := Aside0.mk (blk_below BK.out hb); have n2_ := Aside0.mk (blk_below BKr.out hb); have n3_ := Aside0.mk hbr; have n4_ := Aside0.mk (by rw [hg]; exact (below_size HB.out) : w.heap.size ≤ g); have n5_ := Aside0.mk (by rw [hg]; exact (blk_lt BKr.out) : gr < g); clear HB BK BKr hcz0 hcz1; have HB := n0_; have BK := n1_; have BKr := n2_; have BR := n3_; have GEg := n4_; have LTg := n5_; have HCAP := Aside0.mk hcap; clear n0_ n1_ n2_ n3_ n4_ n5_ hg hbr hb hcap) | ((with_reducible refine gate_dst (N := 4) rfl ?_); refine box_event ?hg (N := 4) ?hd (cs := #[.string (⟨#[]⟩ : ByteArray), .slice none 0 0]) (t := 30) ?hr ?_; (case hd => rfl); (case hg => rfl); (case hr => first | (go_simp; done) | (go_simp; rfl)); intro go hg w4 hbox hb; have n0_ := Aside0.mk (below_step HB.out hb); have n1_ := Aside0.mk (blk_below BK.out hb); have n2_ := Aside0.mk (blk_below BKr.out hb); have n3_ := Aside0.mk (BR.out.below hb BR.out.lt); have n4_ := Aside0.mk (by rw [hg]; exact (below_size HB.out) : w.heap.size ≤ go); have n5_ := Aside0.mk (by rw [hg]; exact BR.out.lt : g < go); have n6_ := Aside0.mk hbox; clear HB BK BKr BR; have HB := n0_; have BK := n1_; have BKr := n2_; have BR := n3_; have GEo := n4_; have LTo := n5_; have BKo := n6_; clear n0_ n1_ n2_ n3_ n4_ n5_ n6_ hb hg hbox; have hco0 : w4.cell? ⟨go, 0, none⟩ = some (.string (⟨#[]⟩ : ByteArray)) := (blk_cell BKo.out 0).trans rfl; have hco1 : w4.cell? ⟨go, 1, none⟩ = some (.slice none 0 0) := (blk_cell BKo.out 1).trans rfl; have hfo0 := blk_frozen BKo.out 0; have hfo1 := blk_frozen BKo.out 1))
  go_loopg [5] l0_1.length (fun kq v4 w' => ∃ (i : Nat) (b : List UInt8) (acc : List S67) (v : Value), v4 = .int .i64 (i : Int) ∧ i ≤ l0_1.length ∧ l0_1.length - i ≤ kq ∧ Aside0 (spec_l2Fence.l (l0_1.drop i) b acc = some (b1, acc1)) ∧ Aside0 (b.length = a0_0.size) ∧ Aside0 (Go.Proofs.YtbbbajnnoficbaaBts.BRow w' g 5 b) ∧ Aside0 (w'.heap[gd]? = some (.cells #[.string a0_0, (.slice A0_1 l0_1.length c0_1)] 30 (0, 0))) ∧ Aside0 (w'.heap[gr]? = some (.cells #[.string (⟨#[]⟩ : ByteArray), .slice none 0 0] 30 (0, 0))) ∧ Aside0 (w'.heap[go]? = some (.cells #[.string (⟨#[]⟩ : ByteArray), v] 30 (0, 0))) ∧ Aside0 (Kd.R k67 67 w' w.heap.size (fun _ => True) v acc) ∧ Aside0 (Below w.heap.size w w'))
  case atStart => exact ⟨0, a0_0.data.toList, [], _, rfl, Nat.zero_le _, by omega, ⟨by simpa using H.out⟩, ⟨by simp⟩, ⟨(BR.out.far _ (by have := LTo.out; show go ≠ g; omega) _).far _ (by have := LTo.out; show go ≠ g; omega) _⟩, ⟨blk_far (blk_far BK.out (by have := LTr.out; have := LTg.out; have := LTo.out; show gd ≠ go; omega) _) (by have := LTr.out; have := LTg.out; have := LTo.out; show gd ≠ go; omega) _⟩, ⟨blk_far (blk_far BKr.out (by have := LTg.out; have := LTo.out; show gr ≠ go; omega) _) (by have := LTg.out; have := LTo.out; show gr ≠ go; omega) _⟩, ⟨blk_put (cs := #[.string (⟨#[]⟩ : ByteArray), .slice none 0 0]) (blk_put BKo.out 0 _ rfl) 1 _ rfl⟩, ⟨Kd.R_nil _ _ _ _ _⟩, ⟨below_set (below_set HB.out GEo.out) GEo.out⟩⟩
  case round =>
    clear H BR BK BKr BKo HB
    obtain ⟨i, b, acc, v, rfl, hi, hk, H, BL, BR, BK, BKr, BKo, HO, HB⟩ := hrel
    have hcz0 : wr.cell? ⟨gd, 0, none⟩ = some (.string a0_0) := (blk_cell BK.out 0).trans rfl
    have hcz1 : wr.cell? ⟨gd, 1, none⟩ = some (.slice A0_1 l0_1.length c0_1) := (blk_cell BK.out 1).trans rfl
    have hil := HL.out
    by_cases c : i < l0_1.length
    · have h1 := H.out
      have ex : l0_1.drop i = rd_T67 l0_1 i :: l0_1.drop (i + 1) := by rw [List.drop_eq_getElem_cons c]; simp [rd_T67, List.getD, c]
      rw [ex] at h1
      unfold spec_l2Fence.l at h1
      obtain ⟨ad, ea, hx0, hx1, hx2⟩ := at_T67 HR0_1.out (i : Int) (by omega) (by omega)
      cases ea
      have lt0 := World.block_lt_of_cell? w _ hx0
      replace hx0 := (HB.out.cell (World.block_lt_of_cell? w _ hx0)).trans hx0
      replace hx1 := (HB.out.cell (World.block_lt_of_cell? w _ hx1)).trans hx1
      replace hx2 := (HB.out.cell (World.block_lt_of_cell? w _ hx2)).trans hx2
      simp only [Int.toNat_natCast] at hx0 hx1 hx2
      simp only [add_block] at lt0
      generalize rd_T67 l0_1 (i : Int) = x at *
      obtain ⟨xa, xd, xs⟩ := x
      simp only at *
      by_cases c2 : 0 ≤ xa ∧ 64 * xa + 64 ≤ (b.length : Int) ∧ (xs.size : Int) ≤ 64 ∧ acc.length < 3518437208880
      · rw [if_pos c2] at h1
        obtain ⟨c3, c4, c5, c6⟩ := c2
        obtain ⟨n, rfl⟩ := Int.eq_ofNat_of_zero_le c3
        have hl := HS.out
        have hn : 64 * n + 64 ≤ a0_0.size := by have := BL.out; omega
        rw [show (64 * (n : Int)).toNat = 64 * n by omega] at h1
        have H2 := Aside0.mk h1
        have LM := Aside0.mk c6
        have q1 : (0 : Int) ≤ 64 * (n : Int) := by omega
        have q2 : 64 * (n : Int) ≤ (a0_0.size : Int) := by omega
        have q3 : IntKind.i64.wrap (64 * (n : Int)) = 64 * (n : Int) := by rw [i64_w]; unfold wrap64; omega
        have qt : (64 * (n : Int)).toNat = 64 * n := by omega
        have qc : ¬ cap = 64 * n := by have := HCAP.out; omega
        have s1 := Aside0.mk (show xs.size ≤ a0_0.size - 64 * n by omega)
        have s2 := Aside0.mk (show 64 * n + (a0_0.size - 64 * n) ≤ b.length by have := BL.out; omega)
        have s3 := Aside0.mk (show 64 * n + xs.data.toList.length ≤ b.length by have := BL.out; have h7 : xs.data.toList.length = xs.size := (by simp); omega)
        have hco1 : wr.cell? ⟨go, 1, none⟩ = some v := (blk_cell BKo.out 1).trans rfl
        clear h1 H ex c3 c4 c5 c6
        go_wp2_with (first | ((with_reducible refine gate_dst (N := 6) rfl ?_); refine box_event ?hg (N := 6) ?hd (cs := #[.int .i64 0, .string (⟨#[]⟩ : ByteArray), .string (⟨#[]⟩ : ByteArray)]) (t := 67) ?hr ?_; (case hd => rfl); (case hg => rfl); (case hr => first | (go_simp; done) | (go_simp; rfl)); intro gl hg w6 hbox hb; have n0_ := Aside0.mk (below_step HB.out hb); have n1_ := Aside0.mk (blk_below BK.out hb); have n2_ := Aside0.mk (blk_below BKr.out hb); have n3_ := Aside0.mk (BR.out.below hb BR.out.lt); have n4_ := Aside0.mk (blk_below BKo.out hb); have n5_ := Aside0.mk (Kd.R_below HO.out hb); have GEl := Aside0.mk (by rw [hg]; exact (below_size HB.out) : w.heap.size ≤ gl); have LTl := Aside0.mk (by rw [hg]; exact blk_lt BKo.out : go < gl); have NOV := Aside0.mk (show ∀ k, v.ownBlock = some k → k ≠ gl by intro k hk; rw [hg]; exact Nat.ne_of_lt (Kd.R_lt HO.out k hk)); have BKl := Aside0.mk hbox; clear HB BK BKr BR BKo HO hcz0 hcz1 hco1; have HB := n0_; have BK := n1_; have BKr := n2_; have BR := n3_; have BKo := n4_; have HO := n5_; clear n0_ n1_ n2_ n3_ n4_ n5_ hbox hg; replace hx0 := (hb.cell (World.block_lt_of_cell? wr _ hx0)).trans hx0; replace hx1 := (hb.cell (World.block_lt_of_cell? wr _ hx1)).trans hx1; replace hx2 := (hb.cell (World.block_lt_of_cell? wr _ hx2)).trans hx2; clear hb; have hcl0 : w6.cell? ⟨gl, 0, none⟩ = some (.int .i64 0) := (blk_cell BKl.out 0).trans rfl; have hcl1 : w6.cell? ⟨gl, 1, none⟩ = some (.string (⟨#[]⟩ : ByteArray)) := (blk_cell BKl.out 1).trans rfl; have hcl2 : w6.cell? ⟨gl, 2, none⟩ = some (.string (⟨#[]⟩ : ByteArray)) := (blk_cell BKl.out 2).trans rfl; have hfl0 := blk_frozen BKl.out 0; have hfl1 := blk_frozen BKl.out 1; have hfl2 := blk_frozen BKl.out 2))
        try go_wp2
        have N1 := Aside0.mk (show gd ≠ gl by have := LTr.out; have := LTg.out; have := LTo.out; have := LTl.out; omega)
        have N2 := Aside0.mk (show gr ≠ gl by have := LTg.out; have := LTo.out; have := LTl.out; omega)
        have N3 := Aside0.mk (show g ≠ gl by have := LTo.out; have := LTl.out; omega)
        have N4 := Aside0.mk (show go ≠ gl by have := LTl.out; omega)
        have M1 := Aside0.mk (show gd ≠ g by have := LTr.out; have := LTg.out; omega)
        have M2 := Aside0.mk (show gr ≠ g by have := LTg.out; omega)
        have M3 := Aside0.mk (show go ≠ g by have := LTo.out; omega)
        have RNE := Aside0.mk (spec_l2Fence.rne HO.out BR.out)
        go_region_law (refine Go.Proofs.YtbbbajnnoficbaaBts.step_copyW rfl (.tmp 27) (.tmp 29) 50 9 rfl 5 Try.underlying50 (by kernel_rfl) g (64 * n) (a0_0.size - 64 * n) (cap - 64 * n) (by simp [Act.eval, Act.put]) xs (by simp [Act.eval, Act.put]) b (by (with_reducible repeat (first | exact BR.out | refine Go.Proofs.YtbbbajnnoficbaaBts.BRow.drew ?_ | refine Go.Proofs.YtbbbajnnoficbaaBts.BRow.far ?_ _ N3.out.symm _))) s1.out s2.out ?_; intro w7 hbr7 hoth7 hsz7 hbel7; have HBR := Aside0.mk hbr7; have HOTH := Aside0.mk hoth7; have HBEL := Aside0.mk hbel7; clear hbr7 hoth7 hsz7 hbel7)
        all_goals
          have BR7 := Aside0.mk HBR.out
          have BK7 : Aside0 (w7.heap[gd]? = some (.cells #[.string a0_0, .slice (some ad) l0_1.length c0_1] 30 (0, 0))) := Aside0.mk ((HOTH.out gd M1.out).trans (by (with_reducible repeat (first | exact BK.out | refine blk_drew ?_ | refine blk_far ?_ N1.out _))))
          have BKr7 : Aside0 (w7.heap[gr]? = some (.cells #[.string (⟨#[]⟩ : ByteArray), .slice none 0 0] 30 (0, 0))) := Aside0.mk ((HOTH.out gr M2.out).trans (by (with_reducible repeat (first | exact BKr.out | refine blk_drew ?_ | refine blk_far ?_ N2.out _))))
          have BKo7 : Aside0 (w7.heap[go]? = some (.cells #[.string (⟨#[]⟩ : ByteArray), v] 30 (0, 0))) := Aside0.mk ((HOTH.out go M3.out).trans (by (with_reducible repeat (first | exact BKo.out | refine blk_drew ?_ | refine blk_far ?_ N4.out _))))
          have BKl7 := Aside0.mk ((HOTH.out gl N3.out.symm).trans (blk_drew (blk_put (cs := #[.int .i64 (n : Int), .string xd, .string (⟨#[]⟩ : ByteArray)]) (blk_put (cs := #[.int .i64 (n : Int), .string (⟨#[]⟩ : ByteArray), .string (⟨#[]⟩ : ByteArray)]) (blk_put BKl.out 0 _ rfl) 1 _ rfl) 2 _ rfl)))
          have HO7 : Aside0 (Kd.R k67 67 w7 w.heap.size (fun _ => True) v acc) := Aside0.mk (spec_l2Fence.rmove (by (with_reducible repeat (first | exact HO.out | apply Kd.R_drew | refine spec_l2Fence.rfar ?_ NOV.out _))) (fun k hk => HOTH.out k (RNE.out k hk)))
          have HB7 := Aside0.mk (HBEL.out w.heap.size w GEg.out (by (with_reducible repeat (first | exact HB.out | refine below_drew1 ?_ | refine below_set ?_ GEl.out))))
          clear HBR HOTH HBEL HB BK BKr BR BKo HO BKl RNE hcl0 hcl1 hcl2 hfl0 hfl1 hfl2 hx0 hx1 hx2
          have hcl0 : w7.cell? ⟨gl, 0, none⟩ = some (.int .i64 (n : Int)) := (blk_cell BKl7.out 0).trans rfl
          have hcl1 : w7.cell? ⟨gl, 1, none⟩ = some (.string xd) := (blk_cell BKl7.out 1).trans rfl
          have hcl2 : w7.cell? ⟨gl, 2, none⟩ = some (.string xs) := (blk_cell BKl7.out 2).trans rfl
          have hfl2 := blk_frozen BKl7.out 2
          have hco1 : w7.cell? ⟨go, 1, none⟩ = some v := (blk_cell BKo7.out 1).trans rfl
          have N4a := N4.out
          have N4b := N4.out.symm
          by_cases ce : xs.toList = xd.toList
          · have h1 := H2.out
            rw [if_pos ce] at h1
            have H3 := Aside0.mk h1
            have ce1 : (xs.toList == xd.toList) = true := beq_iff_eq.mpr ce
            clear h1 ce
            go_wp2
            go_roundg (l0_1.length - (i + 1))
            case measure => omega
            case rel => exact ⟨i + 1, _, acc, v, by first | rfl | (simp; done), by omega, by omega, ⟨H3.out⟩, ⟨by have := Go.Proofs.YtbbbajnnoficbaaBts.lay_length _ _ _ s3.out; exact this.trans BL.out⟩, BR7, BK7, BKr7, BKo7, HO7, HB7⟩
          · have h1 := H2.out
            rw [if_neg ce] at h1
            obtain ⟨L8, hL8⟩ : ∃ L : List S67, L = acc ++ [⟨(n : Int), xd, (⟨#[]⟩ : ByteArray)⟩] := ⟨_, rfl⟩
            rw [← hL8] at h1
            have NL8 := Aside0.mk hL8
            clear hL8
            have H3 := Aside0.mk h1
            have ce1 : (xs.toList == xd.toList) = false := beq_eq_false_iff_ne.mpr ce
            clear h1 ce
            obtain ⟨Av, cv, ev⟩ := Kd.R_slice HO7.out
            subst ev
            go_wp2_with (first | ((with_reducible refine gate_dst (N := 41) rfl ?_); refine Kd.R_append k67 (w0 := w) w.heap.size rfl (.tmp 38) (.tmp 40) 28 67 (.agg #[(.int .i64 0), (.string ⟨#[]⟩), (.string ⟨#[]⟩)]) 40 rfl Try.underlying28 info67 rfl (by decide) (by omega) (.slice Av acc.length cv) acc (⟨(n : Int), xd, (⟨#[]⟩ : ByteArray)⟩ : S67) [.int .i64 (n : Int), .string xd, .string (⟨#[]⟩ : ByteArray)] (fun _ => True) (fun _ => False) rfl (by first | (go_simp; done) | (go_simp; rfl)) ?aP (fun _ hk => hk.elim) ?aF ?aO ?aB ?aS ?aL ?_; (case aP => exact k67_mkM _ _ _ (⟨(n : Int), xd, (⟨#[]⟩ : ByteArray)⟩ : S67)); (case aF => exact (fun _ _ => trivial)); (case aO => exact spec_l2Fence.rfar HO7.out NOV.out _); (case aB => exact below_set HB7.out GEl.out); (case aS => have := below_size HB7.out; simpa [World.setCell] using this); (case aL => have := LM.out; omega); intro v8 w8 ho8 hb8 hg8 hat8; rw [← NL8.out] at ho8; obtain ⟨A8, c8, e8⟩ := Kd.R_slice ho8; subst e8; have HO8 := Aside0.mk ho8; have HB8 := Aside0.mk hb8; have BK8 := Aside0.mk (blk_grown (blk_far BK7.out N1.out _) hg8 (by have := Kd.R_ne HO7.out BK7.out (by decide); exact this)); have BKr8 := Aside0.mk (blk_grown (blk_far BKr7.out N2.out _) hg8 (by have := Kd.R_ne HO7.out BKr7.out (by decide); exact this)); have BKo8 := Aside0.mk (blk_grown (blk_far BKo7.out N4.out _) hg8 (by have := Kd.R_ne HO7.out BKo7.out (by decide); exact this)); have BR8 := Aside0.mk ((BR7.out.far ⟨gl, 2, none⟩ N3.out.symm (.string (⟨#[]⟩ : ByteArray))).of_block (hg8.block g (by have := BR7.out.lt; simpa [World.setCell] using this) (fun e_ => spec_l2Fence.rne HO7.out BR7.out g e_.symm rfl))); clear HO7 HB7 BK7 BKr7 BKo7 BR7 BKl7 hg8 hat8 ho8 hb8 hcl0 hcl1 hcl2 hfl2 hco1; have hco0 : w8.cell? ⟨go, 0, none⟩ = some (.string (⟨#[]⟩ : ByteArray)) := (blk_cell BKo8.out 0).trans rfl; have hco1 : w8.cell? ⟨go, 1, none⟩ = some (.slice Av acc.length cv) := (blk_cell BKo8.out 1).trans rfl; have hfo0 := blk_frozen BKo8.out 0; have hfo1 := blk_frozen BKo8.out 1))
            go_roundg (l0_1.length - (i + 1))
            case measure => omega
            case rel => exact ⟨i + 1, _, L8, _, by first | rfl | (simp; done), by omega, by omega, ⟨H3.out⟩, ⟨by have := Go.Proofs.YtbbbajnnoficbaaBts.lay_length _ _ _ s3.out; exact this.trans BL.out⟩, ⟨BR8.out.far _ M3.out _⟩, ⟨blk_far BK8.out (by have := LTr.out; have := LTg.out; have := LTo.out; show gd ≠ go; omega) _⟩, ⟨blk_far BKr8.out (by have := LTg.out; have := LTo.out; show gr ≠ go; omega) _⟩, ⟨blk_put BKo8.out 1 _ rfl⟩, ⟨spec_l2Fence.rfar HO8.out (fun k hk e_ => Kd.R_ne HO8.out BKo8.out (by decide) (by rw [hk, e_])) _⟩, ⟨below_set HB8.out GEo.out⟩⟩
      · rw [if_neg c2] at h1; cases h1
    · have h1 := H.out
      rw [List.drop_of_length_le (by omega)] at h1
      unfold spec_l2Fence.l at h1
      obtain ⟨rfl, rfl⟩ := Prod.mk.inj (Option.some.inj h1)
      have hin : i = l0_1.length := by omega
      subst hin
      clear c h1
      have hco0 : wr.cell? ⟨go, 0, none⟩ = some (.string (⟨#[]⟩ : ByteArray)) := (blk_cell BKo.out 0).trans rfl
      have hco1 : wr.cell? ⟨go, 1, none⟩ = some v := (blk_cell BKo.out 1).trans rfl
      have hfo0 := blk_frozen BKo.out 0
      have hcr0 : wr.cell? ⟨gr, 0, none⟩ = some (.string (⟨#[]⟩ : ByteArray)) := (blk_cell BKr.out 0).trans rfl
      have hcr1 : wr.cell? ⟨gr, 1, none⟩ = some (.slice none 0 0) := (blk_cell BKr.out 1).trans rfl
      have hfr0 := blk_frozen BKr.out 0
      have hfr1 := blk_frozen BKr.out 1
      have K1 : go ≠ gr := by have := LTg.out; have := LTo.out; omega
      have K2 : gr ≠ go := K1.symm
      obtain ⟨Av, cv, ev⟩ := Kd.R_slice HO.out
      subst ev
      go_wp2_with ((with_reducible refine gate_dst (N := 44) rfl ?_); refine Go.Proofs.YtbbbajnnoficbaaBts.string_event rfl 50 9 5 (.tmp 43) rfl g _ _ b rfl Try.underlying50 Try.underlying5 Try.underlying9 BR.out BL.out.symm ?_)
      refine bodyPost_ret (results_cell_row rfl _ _ gr 30 #[.string ⟨b.toArray⟩, .slice Av acc.length cv] (0, 0) _ rfl (by refine blk_put (cs := #[.string ⟨b.toArray⟩, .slice none 0 0]) ?_ 1 _ rfl; refine blk_put (cs := #[.string (⟨#[]⟩ : ByteArray), .slice none 0 0]) ?_ 0 _ rfl; exact blk_far BKr.out K2 _) Try.underlying30 rfl (by kernel_rfl)) rfl ?_
      exact ⟨_, rfl, spec_l2Fence.rfar (spec_l2Fence.rfar (spec_l2Fence.rfar HO.out (fun k hk e_ => Kd.R_ne HO.out BKo.out (by decide) (by rw [hk, e_])) _) (fun k hk e_ => Kd.R_ne HO.out BKr.out (by decide) (by rw [hk, e_])) _) (fun k hk e_ => Kd.R_ne HO.out BKr.out (by decide) (by rw [hk, e_])) _, below_set (below_set (below_set HB.out GEo.out) GEr.out) GEr.out⟩


/-! ### spec_Fence: function 29 -/
def spec_Fence.f (k : Nat) (a0_0 : ByteArray) (l0_1 : List (S67)) : Option (ByteArray × (List (S67))) := (spec_DeviceOk.f k a0_0 l0_1).bind fun t160 => (if t160 = true then ((spec_l2Fence.f a0_0 l0_1).bind fun bt161 => (some (bt161.1, bt161.2))) else (some ((⟨#[]⟩ : ByteArray), ([] : List (S67)))))
theorem spec_Fence.mono : ∀ a0 a1 k, LeO (spec_Fence.f k a0 a1) (spec_Fence.f (k + 1) a0 a1) := by
  intro a0 a1 k
  unfold spec_Fence.f
  repeat' first
      | (with_reducible exact spec_DeviceOk.mono _ _ _)
      | (with_reducible exact LeO.refl _)
      | (with_reducible exact LeO.none _)
      | (with_reducible refine LeO.ite ?_ ?_)
      | (with_reducible refine LeO.bind ?_ (fun _ => ?_))
      | exact spec_DeviceOk.mono _ _ _
      | exact LeO.none _
      | refine LeO.ite ?_ ?_
      | refine LeO.bind ?_ (fun _ => ?_)
set_option maxHeartbeats 8000000 in
set_option maxRecDepth 100000 in
theorem spec_Fence.calls (k : Nat) (a0_0 : ByteArray) (A0_1 : Option Addr) (c0_1 : Nat) (l0_1 : List (S67)) (r1 : ByteArray) (r2 : List (S67)) (w : World) (hr0_1 : Kd.C k67 w A0_1 l0_1.length l0_1) (hc0_1 : l0_1.length ≤ c0_1) (h : spec_Fence.f k a0_0 l0_1 = some (r1, r2)) :
    Calls Try.prog 29 #[.agg #[.string a0_0, .slice A0_1 l0_1.length c0_1]] w fun e w' => ∃ v1_ : Value, e = .returned (.agg #[.string r1, v1_]) ∧ Kd.R k67 67 w' w.heap.size (fun _ => True) v1_ r2 ∧ Below w.heap.size w w' := by
  have hu30 := Try.underlying30
  have HR0_1 := Aside0.mk hr0_1
  have HC0_1 := Aside0.mk hc0_1
  clear hr0_1 hc0_1
  have HB := Aside0.mk (Below.refl w.heap.size w)
  have H : ((spec_DeviceOk.f k a0_0 l0_1).bind fun t160 => (if t160 = true then ((spec_l2Fence.f a0_0 l0_1).bind fun bt161 => (some (bt161.1, bt161.2))) else (some ((⟨#[]⟩ : ByteArray), ([] : List (S67)))))) = some (r1, r2) := h
  clear h
  replace H := Option.bind_eq_some_iff.mp H
  obtain ⟨t160, A20, H⟩ := H
  replace H : (if t160 = true then ((spec_l2Fence.f a0_0 l0_1).bind fun bt161 => (some (bt161.1, bt161.2))) else (some ((⟨#[]⟩ : ByteArray), ([] : List (S67))))) = some (r1, r2) := H
  have A2 := Aside0.mk A20
  clear A20
  by_cases c3 : t160 = true
  · subst c3
    have H1 : ((spec_l2Fence.f a0_0 l0_1).bind fun bt161 => (some (bt161.1, bt161.2))) = some (r1, r2) := by rw [if_pos rfl] at H; exact H
    clear H
    have H := H1
    clear H1
    replace H := Option.bind_eq_some_iff.mp H
    obtain ⟨⟨t161, t162⟩, A40, H⟩ := H
    replace H : (some (t161, t162)) = some (r1, r2) := H
    have A4 := Aside0.mk A40
    clear A40
    simp only [Option.some.injEq, Prod.mk.injEq] at H
    obtain ⟨rfl, rfl⟩ := H
    go_enter Try.func29, Try.ntmps29
    go_wp2_with (first | ((with_reducible refine gate_dst (N := 1) rfl ?_); refine box_event ?hg (N := 1) ?hd (cs := #[.string a0_0, .slice A0_1 l0_1.length c0_1]) (t := 30) ?hr ?_; (case hd => rfl); (case hg => rfl); (case hr => first | (go_simp; done) | (go_simp; rfl)); intro gb158 hg w5 hbox hb; have n0_ := Aside0.mk (below_step (by repeat (first | (with_reducible first | exact HB.out | apply below_alloc | apply pw_below_drewN | apply below_drew1) | exact HB.out)) hb); have n1_ := Aside0.mk (hbox); have n2_ := Aside0.mk ((by rw [hg]; exact (below_size (by repeat (first | (with_reducible first | exact HB.out | apply below_alloc | apply pw_below_drewN | apply below_drew1) | exact HB.out))) : w.heap.size ≤ gb158)); have n3_ := Aside0.mk ((by rw [hg]; exact (below_size (by repeat (first | (with_reducible first | exact HB.out | apply below_alloc | apply pw_below_drewN | apply below_drew1) | exact HB.out))) : w.heap.size ≤ gb158)); clear HB; have HB := n0_; have BK158 := n1_; have GW158 := n2_; have GE158 := n3_; clear n0_ n1_ n2_ n3_; clear hb hbox hg) | ((with_reducible refine gate_dst (N := 2) rfl ?_); refine box_event ?hg (N := 2) ?hd (cs := #[.string (⟨#[]⟩ : ByteArray), .slice none 0 0]) (t := 30) ?hr ?_; (case hd => rfl); (case hg => rfl); (case hr => first | (go_simp; done) | (go_simp; rfl)); intro gb159 hg w6 hbox hb; have n0_ := Aside0.mk (blk_below (g := gb158) (o := .cells #[.string a0_0, .slice A0_1 l0_1.length c0_1] 30 (0, 0)) (by (with_reducible repeat (first | refine blk_drewN ?_ _ | refine blk_drew ?_ | refine blk_alloc ?_ _)); exact BK158.out) hb); have n1_ := Aside0.mk (below_step (by repeat (first | (with_reducible first | exact HB.out | apply below_alloc | apply pw_below_drewN | apply below_drew1 | refine below_set ?_ GE158.out) | exact HB.out)) hb); have n2_ := Aside0.mk (hbox); have n3_ := Aside0.mk ((by rw [hg]; exact (below_size (by repeat (first | (with_reducible first | exact HB.out | apply below_alloc | apply pw_below_drewN | apply below_drew1 | refine below_set ?_ GE158.out) | exact HB.out))) : w.heap.size ≤ gb159)); have n4_ := Aside0.mk ((by rw [hg]; exact (below_size (by repeat (first | (with_reducible first | exact HB.out | apply below_alloc | apply pw_below_drewN | apply below_drew1 | refine below_set ?_ GE158.out) | exact HB.out))) : w.heap.size ≤ gb159)); have n5_ := Aside0.mk ((by rw [hg]; exact Nat.ne_of_lt (blk_lt (g := gb158) (o := .cells #[.string a0_0, .slice A0_1 l0_1.length c0_1] 30 (0, 0)) (by (with_reducible repeat (first | refine blk_drewN ?_ _ | refine blk_drew ?_ | refine blk_alloc ?_ _)); exact BK158.out)) : gb158 ≠ gb159)); have n6_ := Aside0.mk ((by rw [hg]; exact Nat.ne_of_gt (blk_lt (g := gb158) (o := .cells #[.string a0_0, .slice A0_1 l0_1.length c0_1] 30 (0, 0)) (by (with_reducible repeat (first | refine blk_drewN ?_ _ | refine blk_drew ?_ | refine blk_alloc ?_ _)); exact BK158.out)) : gb159 ≠ gb158)); clear BK158; clear HB; have BK158 := n0_; have HB := n1_; have BK159 := n2_; have GW159 := n3_; have GE159 := n4_; have NB158_159 := n5_; have NB159_158 := n6_; clear n0_ n1_ n2_ n3_ n4_ n5_ n6_; clear hb hbox hg; have hnb7 := NB158_159.out; have hnc7 := NB159_158.out; have hcz8_0 : w6.cell? ⟨gb158, 0, none⟩ = some (.string a0_0) := (blk_cell BK158.out 0).trans rfl; have hcz8_1 : w6.cell? ⟨gb158, 1, none⟩ = some (.slice A0_1 l0_1.length c0_1) := (blk_cell BK158.out 1).trans rfl; have hfz8_0 := blk_frozen BK158.out 0; have hfz8_1 := blk_frozen BK158.out 1) | ((with_reducible refine gate_callee (f := 46) rfl ?_); refine goesL_ (some 4) rfl rfl Try.func46 (by kernel_rfl) rfl #[.agg #[.string a0_0, .slice A0_1 l0_1.length c0_1]] rfl (by (try simp only [List.map_toArray, List.map_cons, List.map_nil]); first | done | rfl | (simp only [List.length_drop, List.length_take]; rfl)) ?_; (with_reducible refine (spec_DeviceOk.calls k a0_0 _ _ l0_1 true _ ?side1 ?side2 A2.out).mono ?_); (case side1 => repeat (first | exact (Kd.C_below HR0_1.out HB.out) | (with_reducible refine Kd.C_alloc ?_ _) | (with_reducible refine Kd.C_drewN ?_ _) | (with_reducible refine Kd.C_drew ?_))); (case side2 => exact HC0_1.out); rintro e w9 ⟨rfl, hb⟩; refine ⟨_, rfl, ?_⟩; have n0_ := Aside0.mk (blk_below (g := gb158) (o := .cells #[.string a0_0, .slice A0_1 l0_1.length c0_1] 30 (0, 0)) (by (with_reducible repeat (first | refine blk_drewN ?_ _ | refine blk_drew ?_ | refine blk_alloc ?_ _)); exact BK158.out) hb); have n1_ := Aside0.mk (blk_below (g := gb159) (o := .cells #[.string (⟨#[]⟩ : ByteArray), .slice none 0 0] 30 (0, 0)) (by (with_reducible repeat (first | refine blk_drewN ?_ _ | refine blk_drew ?_ | refine blk_alloc ?_ _)); exact BK159.out) hb); have n2_ := Aside0.mk (below_step (by repeat (first | (with_reducible first | exact HB.out | apply below_alloc | apply pw_below_drewN | apply below_drew1 | refine below_set ?_ GE158.out | refine below_set ?_ GE159.out) | exact HB.out)) hb); clear BK158; clear BK159; clear HB; have BK158 := n0_; have BK159 := n1_; have HB := n2_; clear n0_ n1_ n2_; (try clear hb); (try clear hb2); (try clear hk); (try clear hi); have hcz10_0 : w9.cell? ⟨gb158, 0, none⟩ = some (.string a0_0) := (blk_cell BK158.out 0).trans rfl; have hcz10_1 : w9.cell? ⟨gb158, 1, none⟩ = some (.slice A0_1 l0_1.length c0_1) := (blk_cell BK158.out 1).trans rfl; have hfz10_0 := blk_frozen BK158.out 0; have hfz10_1 := blk_frozen BK158.out 1) | ((with_reducible refine gate_callee (f := 64) rfl ?_); refine goesL_ (some 8) rfl rfl Try.func64 (by kernel_rfl) rfl #[.agg #[.string a0_0, .slice A0_1 l0_1.length c0_1]] rfl (by (try simp only [List.map_toArray, List.map_cons, List.map_nil]); first | done | rfl | (simp only [List.length_drop, List.length_take]; rfl)) ?_; (with_reducible refine (spec_l2Fence.calls a0_0 _ _ l0_1 t161 t162 _ ?side1 ?side2 A4.out).mono ?_); (case side1 => repeat (first | exact (Kd.C_below HR0_1.out HB.out) | (with_reducible refine Kd.C_alloc ?_ _) | (with_reducible refine Kd.C_drewN ?_ _) | (with_reducible refine Kd.C_drew ?_))); (case side2 => exact HC0_1.out); rintro e w11 ⟨v163, rfl, ho0, hb⟩; refine ⟨_, rfl, ?_⟩; have n0_ := Aside0.mk (Kd.R_lower ho0 (below_size (by repeat (first | (with_reducible first | exact HB.out | apply below_alloc | apply pw_below_drewN | apply below_drew1 | refine below_set ?_ GE158.out | refine below_set ?_ GE159.out) | exact HB.out)))); have n1_ := Aside0.mk (blk_below (g := gb158) (o := .cells #[.string a0_0, .slice A0_1 l0_1.length c0_1] 30 (0, 0)) (by (with_reducible repeat (first | refine blk_drewN ?_ _ | refine blk_drew ?_ | refine blk_alloc ?_ _)); exact BK158.out) hb); have n2_ := Aside0.mk (blk_below (g := gb159) (o := .cells #[.string (⟨#[]⟩ : ByteArray), .slice none 0 0] 30 (0, 0)) (by (with_reducible repeat (first | refine blk_drewN ?_ _ | refine blk_drew ?_ | refine blk_alloc ?_ _)); exact BK159.out) hb); have n3_ := Aside0.mk (below_step (by repeat (first | (with_reducible first | exact HB.out | apply below_alloc | apply pw_below_drewN | apply below_drew1 | refine below_set ?_ GE158.out | refine below_set ?_ GE159.out) | exact HB.out)) hb); clear BK158; clear BK159; clear HB; have HO164 := n0_; have BK158 := n1_; have BK159 := n2_; have HB := n3_; clear n0_ n1_ n2_ n3_; (try clear hb); (try clear hb2); (try clear hk); (try clear hi); (try clear ho0); have hcz12_0 : w11.cell? ⟨gb159, 0, none⟩ = some (.string (⟨#[]⟩ : ByteArray)) := (blk_cell BK159.out 0).trans rfl; have hcz12_1 : w11.cell? ⟨gb159, 1, none⟩ = some (.slice none 0 0) := (blk_cell BK159.out 1).trans rfl; have hfz12_0 := blk_frozen BK159.out 0; have hfz12_1 := blk_frozen BK159.out 1; obtain ⟨Ao13, co13, eo13⟩ := Kd.R_slice HO164.out; subst eo13))
    refine bodyPost_ret (results_cell_row rfl _ _ gb159 30 #[.string t161, .slice Ao13 t162.length co13] (0, 0) _ rfl (by (with_reducible repeat (first | refine blk_drewN ?_ _ | refine blk_drew ?_ | refine blk_alloc ?_ _)); refine blk_put (cs := #[.string t161, .slice none 0 0]) ?_ 1 _ rfl; (with_reducible repeat (first | refine blk_drewN ?_ _ | refine blk_drew ?_ | refine blk_alloc ?_ _)); refine blk_put (cs := #[.string (⟨#[]⟩ : ByteArray), .slice none 0 0]) ?_ 0 _ rfl; (with_reducible repeat (first | refine blk_drewN ?_ _ | refine blk_drew ?_ | refine blk_alloc ?_ _)); exact BK159.out) Try.underlying30 rfl (by kernel_rfl)) rfl ?_
    exact ⟨_, by first | rfl | (simp [errW_none, errW_some] <;> rfl) | (simp [*, errW_none, errW_some] <;> rfl), by (with_reducible repeat (first | apply Kd.R_alloc | apply Kd.R_drewN | apply Kd.R_drew)); exact Kd.R_mono (Kd.R_far (p := ⟨gb159, 1, none⟩) (Kd.R_far (p := ⟨gb159, 0, none⟩) (Kd.R_types HO164.out BK159.out (by decide)) (fun _ hk => hk.2) (.string t161)) (fun _ hk => hk.2) (.slice Ao13 t162.length co13)) (fun _ hk => trivial), by repeat (first | (with_reducible first | exact HB.out | apply below_alloc | apply pw_below_drewN | apply below_drew1 | refine below_set ?_ GE158.out | refine below_set ?_ GE159.out) | exact HB.out)⟩
  · replace c3 := Bool.eq_false_iff.mpr c3
    subst c3
    have H1 : (some ((⟨#[]⟩ : ByteArray), ([] : List (S67)))) = some (r1, r2) := by rw [if_neg (show ¬ (false = true) by decide)] at H; exact H
    clear H
    have H := H1
    clear H1
    simp only [Option.some.injEq, Prod.mk.injEq] at H
    obtain ⟨rfl, rfl⟩ := H
    go_enter Try.func29, Try.ntmps29
    go_wp2_with (first | ((with_reducible refine gate_dst (N := 1) rfl ?_); refine box_event ?hg (N := 1) ?hd (cs := #[.string a0_0, .slice A0_1 l0_1.length c0_1]) (t := 30) ?hr ?_; (case hd => rfl); (case hg => rfl); (case hr => first | (go_simp; done) | (go_simp; rfl)); intro gb158 hg w14 hbox hb; have n0_ := Aside0.mk (below_step (by repeat (first | (with_reducible first | exact HB.out | apply below_alloc | apply pw_below_drewN | apply below_drew1) | exact HB.out)) hb); have n1_ := Aside0.mk (hbox); have n2_ := Aside0.mk ((by rw [hg]; exact (below_size (by repeat (first | (with_reducible first | exact HB.out | apply below_alloc | apply pw_below_drewN | apply below_drew1) | exact HB.out))) : w.heap.size ≤ gb158)); have n3_ := Aside0.mk ((by rw [hg]; exact (below_size (by repeat (first | (with_reducible first | exact HB.out | apply below_alloc | apply pw_below_drewN | apply below_drew1) | exact HB.out))) : w.heap.size ≤ gb158)); clear HB; have HB := n0_; have BK158 := n1_; have GW158 := n2_; have GE158 := n3_; clear n0_ n1_ n2_ n3_; clear hb hbox hg) | ((with_reducible refine gate_dst (N := 2) rfl ?_); refine box_event ?hg (N := 2) ?hd (cs := #[.string (⟨#[]⟩ : ByteArray), .slice none 0 0]) (t := 30) ?hr ?_; (case hd => rfl); (case hg => rfl); (case hr => first | (go_simp; done) | (go_simp; rfl)); intro gb159 hg w15 hbox hb; have n0_ := Aside0.mk (blk_below (g := gb158) (o := .cells #[.string a0_0, .slice A0_1 l0_1.length c0_1] 30 (0, 0)) (by (with_reducible repeat (first | refine blk_drewN ?_ _ | refine blk_drew ?_ | refine blk_alloc ?_ _)); exact BK158.out) hb); have n1_ := Aside0.mk (below_step (by repeat (first | (with_reducible first | exact HB.out | apply below_alloc | apply pw_below_drewN | apply below_drew1 | refine below_set ?_ GE158.out) | exact HB.out)) hb); have n2_ := Aside0.mk (hbox); have n3_ := Aside0.mk ((by rw [hg]; exact (below_size (by repeat (first | (with_reducible first | exact HB.out | apply below_alloc | apply pw_below_drewN | apply below_drew1 | refine below_set ?_ GE158.out) | exact HB.out))) : w.heap.size ≤ gb159)); have n4_ := Aside0.mk ((by rw [hg]; exact (below_size (by repeat (first | (with_reducible first | exact HB.out | apply below_alloc | apply pw_below_drewN | apply below_drew1 | refine below_set ?_ GE158.out) | exact HB.out))) : w.heap.size ≤ gb159)); have n5_ := Aside0.mk ((by rw [hg]; exact Nat.ne_of_lt (blk_lt (g := gb158) (o := .cells #[.string a0_0, .slice A0_1 l0_1.length c0_1] 30 (0, 0)) (by (with_reducible repeat (first | refine blk_drewN ?_ _ | refine blk_drew ?_ | refine blk_alloc ?_ _)); exact BK158.out)) : gb158 ≠ gb159)); have n6_ := Aside0.mk ((by rw [hg]; exact Nat.ne_of_gt (blk_lt (g := gb158) (o := .cells #[.string a0_0, .slice A0_1 l0_1.length c0_1] 30 (0, 0)) (by (with_reducible repeat (first | refine blk_drewN ?_ _ | refine blk_drew ?_ | refine blk_alloc ?_ _)); exact BK158.out)) : gb159 ≠ gb158)); clear BK158; clear HB; have BK158 := n0_; have HB := n1_; have BK159 := n2_; have GW159 := n3_; have GE159 := n4_; have NB158_159 := n5_; have NB159_158 := n6_; clear n0_ n1_ n2_ n3_ n4_ n5_ n6_; clear hb hbox hg; have hnb16 := NB158_159.out; have hnc16 := NB159_158.out; have hcz17_0 : w15.cell? ⟨gb158, 0, none⟩ = some (.string a0_0) := (blk_cell BK158.out 0).trans rfl; have hcz17_1 : w15.cell? ⟨gb158, 1, none⟩ = some (.slice A0_1 l0_1.length c0_1) := (blk_cell BK158.out 1).trans rfl; have hfz17_0 := blk_frozen BK158.out 0; have hfz17_1 := blk_frozen BK158.out 1) | ((with_reducible refine gate_callee (f := 46) rfl ?_); refine goesL_ (some 4) rfl rfl Try.func46 (by kernel_rfl) rfl #[.agg #[.string a0_0, .slice A0_1 l0_1.length c0_1]] rfl (by (try simp only [List.map_toArray, List.map_cons, List.map_nil]); first | done | rfl | (simp only [List.length_drop, List.length_take]; rfl)) ?_; (with_reducible refine (spec_DeviceOk.calls k a0_0 _ _ l0_1 false _ ?side1 ?side2 A2.out).mono ?_); (case side1 => repeat (first | exact (Kd.C_below HR0_1.out HB.out) | (with_reducible refine Kd.C_alloc ?_ _) | (with_reducible refine Kd.C_drewN ?_ _) | (with_reducible refine Kd.C_drew ?_))); (case side2 => exact HC0_1.out); rintro e w18 ⟨rfl, hb⟩; refine ⟨_, rfl, ?_⟩; have n0_ := Aside0.mk (blk_below (g := gb158) (o := .cells #[.string a0_0, .slice A0_1 l0_1.length c0_1] 30 (0, 0)) (by (with_reducible repeat (first | refine blk_drewN ?_ _ | refine blk_drew ?_ | refine blk_alloc ?_ _)); exact BK158.out) hb); have n1_ := Aside0.mk (blk_below (g := gb159) (o := .cells #[.string (⟨#[]⟩ : ByteArray), .slice none 0 0] 30 (0, 0)) (by (with_reducible repeat (first | refine blk_drewN ?_ _ | refine blk_drew ?_ | refine blk_alloc ?_ _)); exact BK159.out) hb); have n2_ := Aside0.mk (below_step (by repeat (first | (with_reducible first | exact HB.out | apply below_alloc | apply pw_below_drewN | apply below_drew1 | refine below_set ?_ GE158.out | refine below_set ?_ GE159.out) | exact HB.out)) hb); clear BK158; clear BK159; clear HB; have BK158 := n0_; have BK159 := n1_; have HB := n2_; clear n0_ n1_ n2_; (try clear hb); (try clear hb2); (try clear hk); (try clear hi); have hcz19_0 : w18.cell? ⟨gb159, 0, none⟩ = some (.string (⟨#[]⟩ : ByteArray)) := (blk_cell BK159.out 0).trans rfl; have hcz19_1 : w18.cell? ⟨gb159, 1, none⟩ = some (.slice none 0 0) := (blk_cell BK159.out 1).trans rfl; have hfz19_0 := blk_frozen BK159.out 0; have hfz19_1 := blk_frozen BK159.out 1))
    refine bodyPost_ret (results_cell_row rfl _ _ gb159 30 #[.string (⟨#[]⟩ : ByteArray), .slice none 0 0] (0, 0) _ rfl (by (with_reducible repeat (first | refine blk_drewN ?_ _ | refine blk_drew ?_ | refine blk_alloc ?_ _)); refine blk_put (cs := #[.string (⟨#[]⟩ : ByteArray), .slice none 0 0]) ?_ 1 _ rfl; (with_reducible repeat (first | refine blk_drewN ?_ _ | refine blk_drew ?_ | refine blk_alloc ?_ _)); refine blk_put (cs := #[.string (⟨#[]⟩ : ByteArray), .slice none 0 0]) ?_ 0 _ rfl; (with_reducible repeat (first | refine blk_drewN ?_ _ | refine blk_drew ?_ | refine blk_alloc ?_ _)); exact BK159.out) Try.underlying30 rfl (by kernel_rfl)) rfl ?_
    exact ⟨_, by first | rfl | (simp [errW_none, errW_some] <;> rfl) | (simp [*, errW_none, errW_some] <;> rfl), by first | exact Kd.R_nil _ _ _ _ _ | exact Kd.N_nil _ _ _ _ _ | exact Kd.V_nil _ _ _ _ _ | exact Kd.Q_nil _ _ _ _ _ | exact Kd.S_nil _ _ _ _ _, by repeat (first | (with_reducible first | exact HB.out | apply below_alloc | apply pw_below_drewN | apply below_drew1 | refine below_set ?_ GE158.out | refine below_set ?_ GE159.out) | exact HB.out)⟩

/-! ### impl_within: function 69 -/
def impl_within.f (a0 : Int) (a1 : Int) (a2 : Int) : Option (Bool) := if a0 ≥ a1 then (some (decide (a0 ≤ a2))) else (some false)
set_option maxHeartbeats 8000000 in
set_option maxRecDepth 100000 in
theorem impl_within.calls (a0 : Int) (a1 : Int) (a2 : Int) (r : Bool) (w : World) (h : impl_within.f a0 a1 a2 = some r) :
    Calls Try.prog 69 #[.int .i64 a0, .int .i64 a1, .int .i64 a2] w fun e w' => e = .returned (.bool r) ∧ Drawn0 w w' := by
  have H : (if a0 ≥ a1 then (some (decide (a0 ≤ a2))) else (some false)) = some r := h
  clear h
  by_cases c4 : a0 ≥ a1
  · rw [if_pos c4] at H
    have c4b0 : decide (a1 ≤ a0) = true := decide_eq_true c4
    clear c4
    obtain rfl := Option.some.inj H
    go_enter Try.func69, Try.ntmps69
    go_wp2
    go_ret
    exact ⟨by first | rfl | (simp; done) | (simp [*]; done), by repeat (first | exact Drawn0.refl _ | apply Drawn0.step)⟩
  · rw [if_neg c4] at H
    have c4b0 : decide (a1 ≤ a0) = false := decide_eq_false c4
    clear c4
    obtain rfl := Option.some.inj H
    go_enter Try.func69, Try.ntmps69
    go_wp2
    go_ret
    exact ⟨by first | rfl | (simp; done) | (simp [*]; done), by repeat (first | exact Drawn0.refl _ | apply Drawn0.step)⟩

/-! ### impl_Device_has: function 73 -/
def impl_Device_has.f (a0_0 : ByteArray) (l0_1 : List (S67)) (a1 : Int) : Option (Bool) := (impl_within.f a1 0 (wrap64 ((wrap64 ((a0_0.size : Int) / 64)) - 1))).bind fun t166 => (some t166)
set_option maxHeartbeats 8000000 in
set_option maxRecDepth 100000 in
theorem impl_Device_has.calls (a0_0 : ByteArray) (A0_1 : Option Addr) (c0_1 : Nat) (l0_1 : List (S67)) (a1 : Int) (r : Bool) (w : World) (hr0_1 : Kd.C k67 w A0_1 l0_1.length l0_1) (hc0_1 : l0_1.length ≤ c0_1) (h : impl_Device_has.f a0_0 l0_1 a1 = some r) :
    Calls Try.prog 73 #[.agg #[.string a0_0, .slice A0_1 l0_1.length c0_1], .int .i64 a1] w fun e w' => e = .returned (.bool r) ∧ Below w.heap.size w w' := by
  have hu30 := Try.underlying30
  have HR0_1 := Aside0.mk hr0_1
  have HC0_1 := Aside0.mk hc0_1
  clear hr0_1 hc0_1
  have HB := Aside0.mk (Below.refl w.heap.size w)
  have H : ((impl_within.f a1 0 (wrap64 ((wrap64 ((a0_0.size : Int) / 64)) - 1))).bind fun t166 => (some t166)) = some r := h
  clear h
  replace H := Option.bind_eq_some_iff.mp H
  obtain ⟨t166, A30, H⟩ := H
  replace H : (some t166) = some r := H
  have A3 := Aside0.mk A30
  clear A30
  obtain rfl := Option.some.inj H
  go_enter Try.func73, Try.ntmps73
  go_wp2_with (first | ((with_reducible refine gate_dst (N := 2) rfl ?_); refine box_event ?hg (N := 2) ?hd (cs := #[.string a0_0, .slice A0_1 l0_1.length c0_1]) (t := 30) ?hr ?_; (case hd => rfl); (case hg => rfl); (case hr => first | (go_simp; done) | (go_simp; rfl)); intro gb165 hg w4 hbox hb; have n0_ := Aside0.mk (below_step (by repeat (first | (with_reducible first | exact HB.out | apply below_alloc | apply pw_below_drewN | apply below_drew1) | exact HB.out)) hb); have n1_ := Aside0.mk (hbox); have n2_ := Aside0.mk ((by rw [hg]; exact (below_size (by repeat (first | (with_reducible first | exact HB.out | apply below_alloc | apply pw_below_drewN | apply below_drew1) | exact HB.out))) : w.heap.size ≤ gb165)); have n3_ := Aside0.mk ((by rw [hg]; exact (below_size (by repeat (first | (with_reducible first | exact HB.out | apply below_alloc | apply pw_below_drewN | apply below_drew1) | exact HB.out))) : w.heap.size ≤ gb165)); clear HB; have HB := n0_; have BK165 := n1_; have GW165 := n2_; have GE165 := n3_; clear n0_ n1_ n2_ n3_; clear hb hbox hg; have hcz5_0 : w4.cell? ⟨gb165, 0, none⟩ = some (.string a0_0) := (blk_cell BK165.out 0).trans rfl; have hcz5_1 : w4.cell? ⟨gb165, 1, none⟩ = some (.slice A0_1 l0_1.length c0_1) := (blk_cell BK165.out 1).trans rfl; have hfz5_0 := blk_frozen BK165.out 0; have hfz5_1 := blk_frozen BK165.out 1) | ((with_reducible refine gate_callee (f := 69) rfl ?_); refine goesL_ (some 11) rfl rfl Try.func69 (by kernel_rfl) rfl #[.int .i64 a1, .int .i64 0, .int .i64 (wrap64 ((wrap64 ((a0_0.size : Int) / 64)) - 1))] rfl (by (try simp only [List.map_toArray, List.map_cons, List.map_nil]); first | done | rfl | (simp only [List.length_drop, List.length_take]; rfl) | ((try simp only [decide_eq_false_iff_not, decide_eq_true_eq, eq_iff_iff, iff_true, iff_false, Int.not_lt, Int.not_le, Nat.not_lt, Nat.not_le, ByteArray.size_append, ByteArray.size_extract] at *); (rw [show wrap64 ((a0_0.size : Int) / 64) = (a0_0.size : Int) / 64 from by unfold Go.RowKit.wrap64; omega]); rfl) | ((try simp only [decide_eq_false_iff_not, decide_eq_true_eq, eq_iff_iff, iff_true, iff_false, Int.not_lt, Int.not_le, Nat.not_lt, Nat.not_le, ByteArray.size_append, ByteArray.size_extract] at *); (rw [show wrap64 ((a0_0.size : Int) / 64) = (a0_0.size : Int) / 64 from by unfold Go.RowKit.wrap64; omega, show wrap64 ((((a0_0.size : Int) / 64)) - 1) = (((a0_0.size : Int) / 64)) - 1 from by unfold Go.RowKit.wrap64; omega]); rfl)) ?_; (with_reducible refine (impl_within.calls a1 0 (wrap64 ((wrap64 ((a0_0.size : Int) / 64)) - 1)) t166 _ A3.out).mono ?_); rintro e w' ⟨rfl, ⟨nd, rfl⟩⟩; refine ⟨_, rfl, ?_⟩))
  go_ret
  exact ⟨by first | rfl | (simp [errW_none, errW_some] <;> rfl) | (simp [*, errW_none, errW_some] <;> rfl), by repeat (first | (with_reducible first | exact HB.out | apply below_alloc | apply pw_below_drewN | apply below_drew1 | refine below_set ?_ GE165.out) | exact HB.out)⟩

end Go.Proofs.Ytbbbajnnoficbaa.PFnExactFence
