-- by a patched copy of the print (wip/tools/patch_print.py)
import Derived.Test.YtbbbajnnoficbaaPFnExactCrashx0
import Derived.Test.YtbbbajnnoficbaaPFnExactCrashx3
namespace Go.Proofs.Ytbbbajnnoficbaa.PFnExactCrash
open Go.RowKit Go.Proofs.YtbbbajnnoficbaaW.PrintWords Go.Proofs.YtbbbajnnoficbaaW.PrintLast Go.Proofs.YtbbbajnnoficbaaW.PrintMore
attribute [local go_sem] max2_int min2_int max_two min_two max_three min_three max_four min_four   -- for this text's walks alone
set_option linter.unusedVariables false
set_option linter.unusedSimpArgs false

/-! ### spec_l2Crash: function 61 -/
def spec_l2Crash.lay (b : List UInt8) (n : Int) (t : ByteArray) : Option (List UInt8) := if 0 ≤ n ∧ 64 * n + 64 ≤ (b.length : Int) ∧ (t.size : Int) ≤ 64 then some (b.take (64 * n).toNat ++ t.data.toList ++ b.drop ((64 * n).toNat + t.data.toList.length)) else none
def spec_l2Crash.l : List S67 → List Int → List UInt8 → Option (List UInt8)
  | [], _, b => some b
  | _ :: _, [], b => some b
  | x :: xs, q :: qs, b => if q = 1 then (spec_l2Crash.lay b x.f0 x.f2).bind (fun b => spec_l2Crash.l xs qs b) else if q = 2 then (spec_l2Crash.lay b x.f0 x.f1).bind (fun b => spec_l2Crash.l xs qs b) else spec_l2Crash.l xs qs b
def spec_l2Crash.f (a0_0 : ByteArray) (l0_1 : List S67) (l1 : List Int) : Option (ByteArray × (List S67)) := if (a0_0.size : Int) ≤ 9223372036854775807 then (spec_l2Crash.l l0_1 l1 a0_0.data.toList).map fun b => (⟨b.toArray⟩, []) else none
set_option maxHeartbeats 8000000 in
set_option maxRecDepth 100000 in
theorem spec_l2Crash.calls (a0_0 : ByteArray) (A0_1 : Option Addr) (c0_1 : Nat) (l0_1 : List (S67)) (A1 : Option Addr) (c1 : Nat) (l1 : List Int) (r1 : ByteArray) (r2 : List (S67)) (w : World) (hr0_1 : Kd.C k67 w A0_1 l0_1.length l0_1) (hc0_1 : l0_1.length ≤ c0_1) (hr1 : Kd.C (Kd.int .i64) w A1 l1.length l1) (hc1 : l1.length ≤ c1) (h : spec_l2Crash.f a0_0 l0_1 l1 = some (r1, r2)) :
    Calls Try.prog 61 #[.agg #[.string a0_0, .slice A0_1 l0_1.length c0_1], .slice A1 l1.length c1] w fun e w' => ∃ v1_ : Value, e = .returned (.agg #[.string r1, v1_]) ∧ Kd.R k67 67 w' w.heap.size (fun _ => True) v1_ r2 ∧ Below w.heap.size w w' := by
  have hu30 := Try.underlying30
  have hu67 := Try.underlying67
  have HR0_1 := Aside0.mk hr0_1
  have HR1 := Aside0.mk hr1
  have HL := Aside0.mk (Kd.C_max hr0_1)
  have HL1 := Aside0.mk (Kd.C_max hr1)
  clear hr0_1 hc0_1 hr1 hc1
  have HB := Aside0.mk (Below.refl w.heap.size w)
  have HS : (a0_0.size : Int) ≤ 9223372036854775807 := by
    unfold spec_l2Crash.f at h; by_cases c : (a0_0.size : Int) ≤ 9223372036854775807
    · exact c
    · rw [if_neg c] at h; cases h
  obtain ⟨b1, hb1, hb2⟩ : ∃ b1, spec_l2Crash.l l0_1 l1 a0_0.data.toList = some b1 ∧ ((⟨b1.toArray⟩ : ByteArray), ([] : List S67)) = (r1, r2) := by
    unfold spec_l2Crash.f at h; rw [if_pos HS] at h; exact Option.map_eq_some_iff.mp h
  obtain ⟨rfl, rfl⟩ := Prod.mk.inj hb2
  replace HS := Aside0.mk HS
  have H := Aside0.mk hb1
  clear h hb1 hb2
  go_enter Try.func61, Try.ntmps61
  go_wp2_with (first | ((with_reducible refine gate_dst (N := 2) rfl ?_); refine box_event ?hg (N := 2) ?hd (cs := #[.string a0_0, .slice A0_1 l0_1.length c0_1]) (t := 30) ?hr ?_; (case hd => rfl); (case hg => rfl); (case hr => first | (go_simp; done) | (go_simp; rfl)); intro gd hg w4 hbox hb; have n0_ := Aside0.mk (below_step HB.out hb); have n1_ := Aside0.mk hbox; have n3_ := Aside0.mk (by rw [hg]; exact (below_size HB.out) : w.heap.size ≤ gd); clear HB; have HB := n0_; have BK := n1_; have GE := n3_; clear n0_ n1_ n3_; clear hb hbox hg; have hcz0 : w4.cell? ⟨gd, 0, none⟩ = some (.string a0_0) := (blk_cell BK.out 0).trans rfl; have hcz1 : w4.cell? ⟨gd, 1, none⟩ = some (.slice A0_1 l0_1.length c0_1) := (blk_cell BK.out 1).trans rfl) | ((with_reducible refine gate_dst (N := 4) rfl ?_); refine box_event ?hg (N := 4) ?hd (cs := #[.string (⟨#[]⟩ : ByteArray), .slice none 0 0]) (t := 30) ?hr ?_; (case hd => rfl); (case hg => rfl); (case hr => first | (go_simp; done) | (go_simp; rfl)); intro gr hg w4r hbox hb; have n0_ := Aside0.mk (below_step HB.out hb); have n1_ := Aside0.mk hbox; have n2_ := Aside0.mk (blk_below BK.out hb); have n3_ := Aside0.mk (by rw [hg]; exact (below_size HB.out) : w.heap.size ≤ gr); have n4_ := Aside0.mk (by rw [hg]; exact Nat.ne_of_lt (blk_lt BK.out) : gd ≠ gr); clear HB BK hcz0 hcz1; have HB := n0_; have BKr := n1_; have BK := n2_; have GEr := n3_; have NEr := n4_; clear n0_ n1_ n2_ n3_ n4_; clear hb hbox hg; have hcz0 : w4r.cell? ⟨gd, 0, none⟩ = some (.string a0_0) := (blk_cell BK.out 0).trans rfl; have hcz1 : w4r.cell? ⟨gd, 1, none⟩ = some (.slice A0_1 l0_1.length c0_1) := (blk_cell BK.out 1).trans rfl) | ((with_reducible refine gate_dst (N := 10) rfl ?_); refine Go.Proofs.YtbbbajnnoficbaaBts.conv_event rfl 9 50 5 (.tmp 9) rfl a0_0 rfl Try.underlying9 Try.underlying50 Try.underlying5 ?_; intro g hg cap w5 hcap hbr hb; have n0_ := Aside0.mk (below_step HB.out hb); have n1_ := Aside0.mk (blk_below BK.out hb); have n5_ := Aside0.mk (blk_below BKr.out hb); have n2_ := Aside0.mk hbr; have n3_ := Aside0.mk (by rw [hg]; exact (below_size HB.out) : w.heap.size ≤ g);  have n4_ := Aside0.mk (by rw [hg]; exact Nat.ne_of_lt (blk_lt BK.out) : gd ≠ g); have n6_ := Aside0.mk (by rw [hg]; exact Nat.ne_of_lt (blk_lt BKr.out) : gr ≠ g); clear HB BK BKr; have HB := n0_; have BK := n1_; have BKr := n5_; have BR := n2_; have GE2 := n3_; have NE := n4_; have NEr2 := n6_; have HCAP := Aside0.mk hcap; clear n0_ n1_ n2_ n3_ n4_ n5_ n6_ hg hbr hb hcap hcz0 hcz1))
  go_loopg [6] l0_1.length (fun kq v4 w' => ∃ (i : Nat) (b : List UInt8), v4 = .int .i64 (i : Int) ∧ i ≤ l0_1.length ∧ l0_1.length - i ≤ kq ∧ Aside0 (spec_l2Crash.l (l0_1.drop i) (l1.drop i) b = some b1) ∧ Aside0 (b.length = a0_0.size) ∧ Aside0 (Go.Proofs.YtbbbajnnoficbaaBts.BRow w' g 5 b) ∧ Aside0 (w'.heap[gd]? = some (.cells #[.string a0_0, (.slice A0_1 l0_1.length c0_1)] 30 (0, 0))) ∧ Aside0 (w'.heap[gr]? = some (.cells #[.string (⟨#[]⟩ : ByteArray), .slice none 0 0] 30 (0, 0))) ∧ Aside0 (Below w.heap.size w w'))
  case atStart => exact ⟨0, a0_0.data.toList, rfl, Nat.zero_le _, by omega, ⟨by simpa using H.out⟩, ⟨by simp⟩, BR, BK, BKr, HB⟩
  case round =>
    clear H BR BK BKr HB
    obtain ⟨i, b, rfl, hi, hk, H, BL, BR, BK, BKr, HB⟩ := hrel
    have hcz0 : wr.cell? ⟨gd, 0, none⟩ = some (.string a0_0) := (blk_cell BK.out 0).trans rfl
    have hcz1 : wr.cell? ⟨gd, 1, none⟩ = some (.slice A0_1 l0_1.length c0_1) := (blk_cell BK.out 1).trans rfl
    have hil := HL.out
    have hil1 := HL1.out
    by_cases c : i < l0_1.length ∧ i < l1.length
    · obtain ⟨c, cq⟩ := c
      have h1 := H.out
      have ex : l0_1.drop i = rd_T67 l0_1 i :: l0_1.drop (i + 1) := by rw [List.drop_eq_getElem_cons c]; simp [rd_T67, List.getD, c]
      have eq : l1.drop i = rd l1 i :: l1.drop (i + 1) := by rw [List.drop_eq_getElem_cons cq]; simp [rd, rdOf, List.getD, cq]
      rw [ex, eq] at h1
      obtain ⟨ad, ea, hx0, hx1, hx2⟩ := at_T67 HR0_1.out (i : Int) (by omega) (by omega)
      cases ea
      obtain ⟨aq, eb, hq0⟩ := Kd.at_int HR1.out (i : Int) (by omega) (by omega)
      cases eb
      have lt0 := World.block_lt_of_cell? w _ hx0
      have lt1 := World.block_lt_of_cell? w _ hq0
      replace hx0 := (HB.out.cell (World.block_lt_of_cell? w _ hx0)).trans hx0
      replace hx1 := (HB.out.cell (World.block_lt_of_cell? w _ hx1)).trans hx1
      replace hx2 := (HB.out.cell (World.block_lt_of_cell? w _ hx2)).trans hx2
      replace hq0 := (HB.out.cell (World.block_lt_of_cell? w _ hq0)).trans hq0
      simp only [Int.toNat_natCast] at hx0 hx1 hx2 hq0
      simp only [add_block] at lt0 lt1
      generalize rd_T67 l0_1 (i : Int) = x at *
      generalize rd l1 (i : Int) = q at *
      obtain ⟨xa, xd, xs⟩ := x
      simp only at *
      by_cases k1 : q = 1
      · subst k1
        unfold spec_l2Crash.l at h1
        rw [if_pos rfl] at h1
        obtain ⟨b2, h2, h3⟩ := Option.bind_eq_some_iff.mp h1
        unfold spec_l2Crash.lay at h2
        by_cases c2 : 0 ≤ xa ∧ 64 * xa + 64 ≤ (b.length : Int) ∧ (xs.size : Int) ≤ 64
        · rw [if_pos c2] at h2
          obtain ⟨c3, c4, c5⟩ := c2
          obtain ⟨n, rfl⟩ := Int.eq_ofNat_of_zero_le c3
          obtain rfl := Option.some.inj h2
          have hl := HS.out
          have hn : 64 * n + 64 ≤ a0_0.size := by have := BL.out; omega
          have H2 := Aside0.mk (show spec_l2Crash.l (l0_1.drop (i + 1)) (l1.drop (i + 1)) (Go.Proofs.YtbbbajnnoficbaaBts.lay b (64 * n) xs.data.toList) = some b1 by rw [show (64 * (n : Int)).toNat = 64 * n by omega] at h3; exact h3)
          have q1 : (0 : Int) ≤ 64 * (n : Int) := by omega
          have q2 : 64 * (n : Int) ≤ (a0_0.size : Int) := by omega
          have q3 : IntKind.i64.wrap (64 * (n : Int)) = 64 * (n : Int) := by rw [i64_w]; unfold wrap64; omega
          have qt : (64 * (n : Int)).toNat = 64 * n := by omega
          have qc : ¬ cap = 64 * n := by have := HCAP.out; omega
          have s1 := Aside0.mk (show xs.size ≤ a0_0.size - 64 * n by omega)
          have s2 := Aside0.mk (show 64 * n + (a0_0.size - 64 * n) ≤ b.length by have := BL.out; omega)
          have s3 := Aside0.mk (show 64 * n + xs.data.toList.length ≤ b.length by have := BL.out; have h7 : xs.data.toList.length = xs.size := (by simp); omega)
          have q4 : (i : Int) < (l1.length : Int) := by omega
          have q5 : (i : Int) < (l0_1.length : Int) := by omega
          clear h1 h2 h3 H ex eq c3 c4 c5
          go_wp2_with (first | ((with_reducible refine gate_dst (N := 7) rfl ?_); refine box_event ?hg (N := 7) ?hd (cs := #[.int .i64 0, .string (⟨#[]⟩ : ByteArray), .string (⟨#[]⟩ : ByteArray)]) (t := 67) ?hr ?_; (case hd => rfl); (case hg => rfl); (case hr => first | (go_simp; done) | (go_simp; rfl)); intro gl hg w6 hbox hb; have n0_ := Aside0.mk (below_step HB.out hb); have n1_ := Aside0.mk (blk_below BK.out hb); have n2_ := Aside0.mk (blk_below BKr.out hb); have n3_ := Aside0.mk (BR.out.below hb BR.out.lt); have GEl := Aside0.mk (by rw [hg]; exact (below_size HB.out) : w.heap.size ≤ gl); have NEl := (by rw [hg]; exact Nat.ne_of_lt (blk_lt BK.out) : gd ≠ gl); have NElr := (by rw [hg]; exact Nat.ne_of_lt (blk_lt BKr.out) : gr ≠ gl); have NElg := (by rw [hg]; exact Nat.ne_of_lt BR.out.lt : g ≠ gl); have NEla := (by have := GEl.out; omega : ad.block ≠ gl); have NElq := (by have := GEl.out; omega : aq.block ≠ gl); have NEl' := NEl.symm; have NElr' := NElr.symm; have NElg' := NElg.symm; have NEla' := NEla.symm; have NElq' := NElq.symm; clear HB BK BKr BR hcz0 hcz1; have HB := n0_; have BK := n1_; have BKr := n2_; have BR := n3_; clear n0_ n1_ n2_ n3_; have BKl := Aside0.mk hbox; have hcz0 : w6.cell? ⟨gd, 0, none⟩ = some (.string a0_0) := (blk_cell BK.out 0).trans rfl; have hcz1 : w6.cell? ⟨gd, 1, none⟩ = some (.slice (some ad) l0_1.length c0_1) := (blk_cell BK.out 1).trans rfl; replace hx0 := (hb.cell (World.block_lt_of_cell? wr _ hx0)).trans hx0; replace hx1 := (hb.cell (World.block_lt_of_cell? wr _ hx1)).trans hx1; replace hx2 := (hb.cell (World.block_lt_of_cell? wr _ hx2)).trans hx2; replace hq0 := (hb.cell (World.block_lt_of_cell? wr _ hq0)).trans hq0; clear hb hbox hg; have hcl0 : w6.cell? ⟨gl, 0, none⟩ = some (.int .i64 0) := (blk_cell BKl.out 0).trans rfl; have hcl1 : w6.cell? ⟨gl, 1, none⟩ = some (.string (⟨#[]⟩ : ByteArray)) := (blk_cell BKl.out 1).trans rfl; have hcl2 : w6.cell? ⟨gl, 2, none⟩ = some (.string (⟨#[]⟩ : ByteArray)) := (blk_cell BKl.out 2).trans rfl; have hfl0 := blk_frozen BKl.out 0; have hfl1 := blk_frozen BKl.out 1; have hfl2 := blk_frozen BKl.out 2; have hq9 : (((w6.setCell ⟨gl, 0, none⟩ (.int .i64 (n : Int))).setCell ⟨gl, 1, none⟩ (.string xd)).setCell ⟨gl, 2, none⟩ (.string xs)).cell? (aq.add i) = some (.int .i64 1) := (by rw [World.cell?_setCell_other _ _ _ _ (fun e_ => NElq' (by have e2_ := congrArg Addr.block e_; rw [add_block] at e2_; exact e2_)), World.cell?_setCell_other _ _ _ _ (fun e_ => NElq' (by have e2_ := congrArg Addr.block e_; rw [add_block] at e2_; exact e2_)), World.cell?_setCell_other _ _ _ _ (fun e_ => NElq' (by have e2_ := congrArg Addr.block e_; rw [add_block] at e2_; exact e2_))]; exact hq0)))
          try go_wp2
          go_region_law (refine Go.Proofs.YtbbbajnnoficbaaBts.step_copy rfl (.tmp 39) (.tmp 41) 50 9 rfl 5 Try.underlying50 (by kernel_rfl) g (64 * n) (a0_0.size - 64 * n) (cap - 64 * n) (by simp [Act.eval, Act.put]) xs (by simp [Act.eval, Act.put]) b (by (with_reducible repeat (first | exact BR.out | refine Go.Proofs.YtbbbajnnoficbaaBts.BRow.drew ?_ | refine Go.Proofs.YtbbbajnnoficbaaBts.BRow.far ?_ _ NElg' _))) s1.out s2.out ?_)
          all_goals
            go_wp2
            go_roundg (l0_1.length - (i + 1))
            case measure => omega
            case rel => exact ⟨i + 1, _, by first | rfl | (simp; done), by omega, by omega, ⟨H2.out⟩, ⟨by rw [Go.Proofs.YtbbbajnnoficbaaBts.lay_length _ _ _ s3.out]; exact BL.out⟩, ⟨Go.Proofs.YtbbbajnnoficbaaBts.BRow.setCells _ _ _ _ (by (with_reducible repeat (first | exact BR.out | refine Go.Proofs.YtbbbajnnoficbaaBts.BRow.drew ?_ | refine Go.Proofs.YtbbbajnnoficbaaBts.BRow.far ?_ _ NElg' _))) s3.out⟩, ⟨by rw [Go.Proofs.YtbbbajnnoficbaaBts.setCells_block NE.out]; (with_reducible repeat (first | exact BK.out | refine blk_drew ?_ | refine blk_far ?_ NEl' _ | refine blk_far ?_ NEl _))⟩, ⟨by rw [Go.Proofs.YtbbbajnnoficbaaBts.setCells_block NEr2.out]; (with_reducible repeat (first | exact BKr.out | refine blk_drew ?_ | refine blk_far ?_ NElr' _ | refine blk_far ?_ NElr _))⟩, ⟨Go.Proofs.YtbbbajnnoficbaaBts.below_setCells GE2.out _ _ _ (by (with_reducible repeat (first | exact HB.out | refine below_drew ?_ | refine below_set ?_ GEl.out)))⟩⟩
        · rw [if_neg c2] at h2; cases h2
      · by_cases k2 : q = 2
        · subst k2
          unfold spec_l2Crash.l at h1
          rw [if_neg (by decide), if_pos rfl] at h1
          obtain ⟨b2, h2, h3⟩ := Option.bind_eq_some_iff.mp h1
          unfold spec_l2Crash.lay at h2
          by_cases c2 : 0 ≤ xa ∧ 64 * xa + 64 ≤ (b.length : Int) ∧ (xd.size : Int) ≤ 64
          · rw [if_pos c2] at h2
            obtain ⟨c3, c4, c5⟩ := c2
            obtain ⟨n, rfl⟩ := Int.eq_ofNat_of_zero_le c3
            obtain rfl := Option.some.inj h2
            have hl := HS.out
            have hn : 64 * n + 64 ≤ a0_0.size := by have := BL.out; omega
            have H2 := Aside0.mk (show spec_l2Crash.l (l0_1.drop (i + 1)) (l1.drop (i + 1)) (Go.Proofs.YtbbbajnnoficbaaBts.lay b (64 * n) xd.data.toList) = some b1 by rw [show (64 * (n : Int)).toNat = 64 * n by omega] at h3; exact h3)
            have q1 : (0 : Int) ≤ 64 * (n : Int) := by omega
            have q2 : 64 * (n : Int) ≤ (a0_0.size : Int) := by omega
            have q3 : IntKind.i64.wrap (64 * (n : Int)) = 64 * (n : Int) := by rw [i64_w]; unfold wrap64; omega
            have qt : (64 * (n : Int)).toNat = 64 * n := by omega
            have qc : ¬ cap = 64 * n := by have := HCAP.out; omega
            have s1 := Aside0.mk (show xd.size ≤ a0_0.size - 64 * n by omega)
            have s2 := Aside0.mk (show 64 * n + (a0_0.size - 64 * n) ≤ b.length by have := BL.out; omega)
            have s3 := Aside0.mk (show 64 * n + xd.data.toList.length ≤ b.length by have := BL.out; have h7 : xd.data.toList.length = xd.size := (by simp); omega)
            have q4 : (i : Int) < (l1.length : Int) := by omega
            have q5 : (i : Int) < (l0_1.length : Int) := by omega
            clear h1 h2 h3 H ex eq c3 c4 c5
            go_wp2_with (first | ((with_reducible refine gate_dst (N := 7) rfl ?_); refine box_event ?hg (N := 7) ?hd (cs := #[.int .i64 0, .string (⟨#[]⟩ : ByteArray), .string (⟨#[]⟩ : ByteArray)]) (t := 67) ?hr ?_; (case hd => rfl); (case hg => rfl); (case hr => first | (go_simp; done) | (go_simp; rfl)); intro gl hg w6 hbox hb; have n0_ := Aside0.mk (below_step HB.out hb); have n1_ := Aside0.mk (blk_below BK.out hb); have n2_ := Aside0.mk (blk_below BKr.out hb); have n3_ := Aside0.mk (BR.out.below hb BR.out.lt); have GEl := Aside0.mk (by rw [hg]; exact (below_size HB.out) : w.heap.size ≤ gl); have NEl := (by rw [hg]; exact Nat.ne_of_lt (blk_lt BK.out) : gd ≠ gl); have NElr := (by rw [hg]; exact Nat.ne_of_lt (blk_lt BKr.out) : gr ≠ gl); have NElg := (by rw [hg]; exact Nat.ne_of_lt BR.out.lt : g ≠ gl); have NEla := (by have := GEl.out; omega : ad.block ≠ gl); have NElq := (by have := GEl.out; omega : aq.block ≠ gl); have NEl' := NEl.symm; have NElr' := NElr.symm; have NElg' := NElg.symm; have NEla' := NEla.symm; have NElq' := NElq.symm; clear HB BK BKr BR hcz0 hcz1; have HB := n0_; have BK := n1_; have BKr := n2_; have BR := n3_; clear n0_ n1_ n2_ n3_; have BKl := Aside0.mk hbox; have hcz0 : w6.cell? ⟨gd, 0, none⟩ = some (.string a0_0) := (blk_cell BK.out 0).trans rfl; have hcz1 : w6.cell? ⟨gd, 1, none⟩ = some (.slice (some ad) l0_1.length c0_1) := (blk_cell BK.out 1).trans rfl; replace hx0 := (hb.cell (World.block_lt_of_cell? wr _ hx0)).trans hx0; replace hx1 := (hb.cell (World.block_lt_of_cell? wr _ hx1)).trans hx1; replace hx2 := (hb.cell (World.block_lt_of_cell? wr _ hx2)).trans hx2; replace hq0 := (hb.cell (World.block_lt_of_cell? wr _ hq0)).trans hq0; clear hb hbox hg; have hcl0 : w6.cell? ⟨gl, 0, none⟩ = some (.int .i64 0) := (blk_cell BKl.out 0).trans rfl; have hcl1 : w6.cell? ⟨gl, 1, none⟩ = some (.string (⟨#[]⟩ : ByteArray)) := (blk_cell BKl.out 1).trans rfl; have hcl2 : w6.cell? ⟨gl, 2, none⟩ = some (.string (⟨#[]⟩ : ByteArray)) := (blk_cell BKl.out 2).trans rfl; have hfl0 := blk_frozen BKl.out 0; have hfl1 := blk_frozen BKl.out 1; have hfl2 := blk_frozen BKl.out 2; have hq9 : (((w6.setCell ⟨gl, 0, none⟩ (.int .i64 (n : Int))).setCell ⟨gl, 1, none⟩ (.string xd)).setCell ⟨gl, 2, none⟩ (.string xs)).cell? (aq.add i) = some (.int .i64 2) := (by rw [World.cell?_setCell_other _ _ _ _ (fun e_ => NElq' (by have e2_ := congrArg Addr.block e_; rw [add_block] at e2_; exact e2_)), World.cell?_setCell_other _ _ _ _ (fun e_ => NElq' (by have e2_ := congrArg Addr.block e_; rw [add_block] at e2_; exact e2_)), World.cell?_setCell_other _ _ _ _ (fun e_ => NElq' (by have e2_ := congrArg Addr.block e_; rw [add_block] at e2_; exact e2_))]; exact hq0)))
            try go_wp2
            go_region_law (refine Go.Proofs.YtbbbajnnoficbaaBts.step_copy rfl (.tmp 49) (.tmp 51) 50 9 rfl 5 Try.underlying50 (by kernel_rfl) g (64 * n) (a0_0.size - 64 * n) (cap - 64 * n) (by simp [Act.eval, Act.put]) xd (by simp [Act.eval, Act.put]) b (by (with_reducible repeat (first | exact BR.out | refine Go.Proofs.YtbbbajnnoficbaaBts.BRow.drew ?_ | refine Go.Proofs.YtbbbajnnoficbaaBts.BRow.far ?_ _ NElg' _))) s1.out s2.out ?_)
            all_goals
              go_wp2
              go_roundg (l0_1.length - (i + 1))
              case measure => omega
              case rel => exact ⟨i + 1, _, by first | rfl | (simp; done), by omega, by omega, ⟨H2.out⟩, ⟨by rw [Go.Proofs.YtbbbajnnoficbaaBts.lay_length _ _ _ s3.out]; exact BL.out⟩, ⟨Go.Proofs.YtbbbajnnoficbaaBts.BRow.setCells _ _ _ _ (by (with_reducible repeat (first | exact BR.out | refine Go.Proofs.YtbbbajnnoficbaaBts.BRow.drew ?_ | refine Go.Proofs.YtbbbajnnoficbaaBts.BRow.far ?_ _ NElg' _))) s3.out⟩, ⟨by rw [Go.Proofs.YtbbbajnnoficbaaBts.setCells_block NE.out]; (with_reducible repeat (first | exact BK.out | refine blk_drew ?_ | refine blk_far ?_ NEl' _ | refine blk_far ?_ NEl _))⟩, ⟨by rw [Go.Proofs.YtbbbajnnoficbaaBts.setCells_block NEr2.out]; (with_reducible repeat (first | exact BKr.out | refine blk_drew ?_ | refine blk_far ?_ NElr' _ | refine blk_far ?_ NElr _))⟩, ⟨Go.Proofs.YtbbbajnnoficbaaBts.below_setCells GE2.out _ _ _ (by (with_reducible repeat (first | exact HB.out | refine below_drew ?_ | refine below_set ?_ GEl.out)))⟩⟩
          · rw [if_neg c2] at h2; cases h2
        · unfold spec_l2Crash.l at h1
          rw [if_neg k1, if_neg k2] at h1
          have H2 := Aside0.mk h1
          have e1 : (q == 1) = false := beq_eq_false_iff_ne.mpr k1
          have e2 : (q == 2) = false := beq_eq_false_iff_ne.mpr k2
          have q4 : (i : Int) < (l1.length : Int) := by omega
          have q5 : (i : Int) < (l0_1.length : Int) := by omega
          clear h1 H ex eq
          go_wp2_with (first | ((with_reducible refine gate_dst (N := 7) rfl ?_); refine box_event ?hg (N := 7) ?hd (cs := #[.int .i64 0, .string (⟨#[]⟩ : ByteArray), .string (⟨#[]⟩ : ByteArray)]) (t := 67) ?hr ?_; (case hd => rfl); (case hg => rfl); (case hr => first | (go_simp; done) | (go_simp; rfl)); intro gl hg w6 hbox hb; have n0_ := Aside0.mk (below_step HB.out hb); have n1_ := Aside0.mk (blk_below BK.out hb); have n2_ := Aside0.mk (blk_below BKr.out hb); have n3_ := Aside0.mk (BR.out.below hb BR.out.lt); have GEl := Aside0.mk (by rw [hg]; exact (below_size HB.out) : w.heap.size ≤ gl); have NEl := (by rw [hg]; exact Nat.ne_of_lt (blk_lt BK.out) : gd ≠ gl); have NElr := (by rw [hg]; exact Nat.ne_of_lt (blk_lt BKr.out) : gr ≠ gl); have NElg := (by rw [hg]; exact Nat.ne_of_lt BR.out.lt : g ≠ gl); have NEla := (by have := GEl.out; omega : ad.block ≠ gl); have NElq := (by have := GEl.out; omega : aq.block ≠ gl); have NEl' := NEl.symm; have NElr' := NElr.symm; have NElg' := NElg.symm; have NEla' := NEla.symm; have NElq' := NElq.symm; clear HB BK BKr BR hcz0 hcz1; have HB := n0_; have BK := n1_; have BKr := n2_; have BR := n3_; clear n0_ n1_ n2_ n3_; have BKl := Aside0.mk hbox; have hcz0 : w6.cell? ⟨gd, 0, none⟩ = some (.string a0_0) := (blk_cell BK.out 0).trans rfl; have hcz1 : w6.cell? ⟨gd, 1, none⟩ = some (.slice (some ad) l0_1.length c0_1) := (blk_cell BK.out 1).trans rfl; replace hx0 := (hb.cell (World.block_lt_of_cell? wr _ hx0)).trans hx0; replace hx1 := (hb.cell (World.block_lt_of_cell? wr _ hx1)).trans hx1; replace hx2 := (hb.cell (World.block_lt_of_cell? wr _ hx2)).trans hx2; replace hq0 := (hb.cell (World.block_lt_of_cell? wr _ hq0)).trans hq0; clear hb hbox hg; have hcl0 : w6.cell? ⟨gl, 0, none⟩ = some (.int .i64 0) := (blk_cell BKl.out 0).trans rfl; have hcl1 : w6.cell? ⟨gl, 1, none⟩ = some (.string (⟨#[]⟩ : ByteArray)) := (blk_cell BKl.out 1).trans rfl; have hcl2 : w6.cell? ⟨gl, 2, none⟩ = some (.string (⟨#[]⟩ : ByteArray)) := (blk_cell BKl.out 2).trans rfl; have hfl0 := blk_frozen BKl.out 0; have hfl1 := blk_frozen BKl.out 1; have hfl2 := blk_frozen BKl.out 2; have hq9 : (((w6.setCell ⟨gl, 0, none⟩ (.int .i64 xa)).setCell ⟨gl, 1, none⟩ (.string xd)).setCell ⟨gl, 2, none⟩ (.string xs)).cell? (aq.add i) = some (.int .i64 q) := (by rw [World.cell?_setCell_other _ _ _ _ (fun e_ => NElq' (by have e2_ := congrArg Addr.block e_; rw [add_block] at e2_; exact e2_)), World.cell?_setCell_other _ _ _ _ (fun e_ => NElq' (by have e2_ := congrArg Addr.block e_; rw [add_block] at e2_; exact e2_)), World.cell?_setCell_other _ _ _ _ (fun e_ => NElq' (by have e2_ := congrArg Addr.block e_; rw [add_block] at e2_; exact e2_))]; exact hq0)))
          go_roundg (l0_1.length - (i + 1))
          case measure => omega
          case rel => exact ⟨i + 1, _, by first | rfl | (simp; done), by omega, by omega, ⟨H2.out⟩, ⟨BL.out⟩, ⟨by (with_reducible repeat (first | exact BR.out | refine Go.Proofs.YtbbbajnnoficbaaBts.BRow.drew ?_ | refine Go.Proofs.YtbbbajnnoficbaaBts.BRow.far ?_ _ NElg' _))⟩, ⟨by (with_reducible repeat (first | exact BK.out | refine blk_drew ?_ | refine blk_far ?_ NEl' _ | refine blk_far ?_ NEl _))⟩, ⟨by (with_reducible repeat (first | exact BKr.out | refine blk_drew ?_ | refine blk_far ?_ NElr' _ | refine blk_far ?_ NElr _))⟩, ⟨by (with_reducible repeat (first | exact HB.out | refine below_drew ?_ | refine below_set ?_ GEl.out))⟩⟩
    · have hend : b1 = b := by
        have h1 := H.out
        by_cases c2 : i < l0_1.length
        · have e1 : l1.drop i = [] := List.drop_of_length_le (by omega)
          rw [List.drop_eq_getElem_cons c2, e1] at h1
          simpa [spec_l2Crash.l] using h1.symm
        · have e1 : l0_1.drop i = [] := List.drop_of_length_le (by omega)
          rw [e1] at h1
          simpa [spec_l2Crash.l] using h1.symm
      subst hend
      have hcr0 : wr.cell? ⟨gr, 0, none⟩ = some (.string (⟨#[]⟩ : ByteArray)) := (blk_cell BKr.out 0).trans rfl
      have hcr1 : wr.cell? ⟨gr, 1, none⟩ = some (.slice none 0 0) := (blk_cell BKr.out 1).trans rfl
      have hfr0 := blk_frozen BKr.out 0
      have hfr1 := blk_frozen BKr.out 1
      by_cases c2 : i < l0_1.length
      · have q5 : (i : Int) < (l0_1.length : Int) := by omega
        have q4 : ¬ (i : Int) < (l1.length : Int) := by omega
        have q6 : ¬ i < l1.length := by omega
        clear c H
        go_wp2_with ((with_reducible refine gate_dst (N := 54) rfl ?_); refine Go.Proofs.YtbbbajnnoficbaaBts.string_event rfl 50 9 5 (.tmp 53) rfl g _ _ b1 rfl Try.underlying50 Try.underlying5 Try.underlying9 BR.out BL.out.symm ?_)
        refine bodyPost_ret (results_cell_row rfl _ _ gr 30 #[.string ⟨b1.toArray⟩, .slice none 0 0] (0, 0) _ rfl (by refine blk_put (cs := #[.string ⟨b1.toArray⟩, .slice none 0 0]) ?_ 1 _ rfl; refine blk_put (cs := #[.string (⟨#[]⟩ : ByteArray), .slice none 0 0]) ?_ 0 _ rfl; exact BKr.out) Try.underlying30 rfl (by kernel_rfl)) rfl ?_
        exact ⟨_, rfl, Kd.R_nil _ _ _ _ _, by (with_reducible repeat (first | exact HB.out | refine below_set ?_ GEr.out))⟩
      · have q5 : ¬ (i : Int) < (l0_1.length : Int) := by omega
        clear c H
        go_wp2_with ((with_reducible refine gate_dst (N := 54) rfl ?_); refine Go.Proofs.YtbbbajnnoficbaaBts.string_event rfl 50 9 5 (.tmp 53) rfl g _ _ b1 rfl Try.underlying50 Try.underlying5 Try.underlying9 BR.out BL.out.symm ?_)
        refine bodyPost_ret (results_cell_row rfl _ _ gr 30 #[.string ⟨b1.toArray⟩, .slice none 0 0] (0, 0) _ rfl (by refine blk_put (cs := #[.string ⟨b1.toArray⟩, .slice none 0 0]) ?_ 1 _ rfl; refine blk_put (cs := #[.string (⟨#[]⟩ : ByteArray), .slice none 0 0]) ?_ 0 _ rfl; exact BKr.out) Try.underlying30 rfl (by kernel_rfl)) rfl ?_
        exact ⟨_, rfl, Kd.R_nil _ _ _ _ _, by (with_reducible repeat (first | exact HB.out | refine below_set ?_ GEr.out))⟩


/-! ### spec_Crash: function 25 -/
def spec_Crash.f (k : Nat) (a0_0 : ByteArray) (l0_1 : List (S67)) (l1 : List Int) : Option (ByteArray × (List (S67))) := (spec_DeviceOk.f k a0_0 l0_1).bind fun t156 => (if t156 = true then ((spec_l2Crash.f a0_0 l0_1 l1).bind fun bt157 => (some (bt157.1, bt157.2))) else (some ((⟨#[]⟩ : ByteArray), ([] : List (S67)))))
theorem spec_Crash.mono : ∀ a0 a1 a2 k, LeO (spec_Crash.f k a0 a1 a2) (spec_Crash.f (k + 1) a0 a1 a2) := by
  intro a0 a1 a2 k
  unfold spec_Crash.f
  repeat' first
      | (with_reducible exact spec_DeviceOk.mono _ _ _)
      | (with_reducible exact LeO.refl _)
      | (with_reducible exact LeO.none _)
      | (with_reducible refine LeO.ite ?_ ?_)
      | (with_reducible refine LeO.bind ?_ (fun _ => ?_))
      | exact spec_DeviceOk.mono _ _ _
      | exact LeO.none _
      | refine LeO.ite ?_ ?_
      | refine LeO.bind ?_ (fun _ => ?_)
set_option maxHeartbeats 8000000 in
set_option maxRecDepth 100000 in
theorem spec_Crash.calls (k : Nat) (a0_0 : ByteArray) (A0_1 : Option Addr) (c0_1 : Nat) (l0_1 : List (S67)) (A1 : Option Addr) (c1 : Nat) (l1 : List Int) (r1 : ByteArray) (r2 : List (S67)) (w : World) (hr0_1 : Kd.C k67 w A0_1 l0_1.length l0_1) (hc0_1 : l0_1.length ≤ c0_1) (hr1 : Kd.C (Kd.int .i64) w A1 l1.length l1) (hc1 : l1.length ≤ c1) (h : spec_Crash.f k a0_0 l0_1 l1 = some (r1, r2)) :
    Calls Try.prog 25 #[.agg #[.string a0_0, .slice A0_1 l0_1.length c0_1], .slice A1 l1.length c1] w fun e w' => ∃ v1_ : Value, e = .returned (.agg #[.string r1, v1_]) ∧ Kd.R k67 67 w' w.heap.size (fun _ => True) v1_ r2 ∧ Below w.heap.size w w' := by
  have hu30 := Try.underlying30
  have HR0_1 := Aside0.mk hr0_1
  have HC0_1 := Aside0.mk hc0_1
  clear hr0_1 hc0_1
  have HR1 := Aside0.mk hr1
  have HC1 := Aside0.mk hc1
  clear hr1 hc1
  have HB := Aside0.mk (Below.refl w.heap.size w)
  have H : ((spec_DeviceOk.f k a0_0 l0_1).bind fun t156 => (if t156 = true then ((spec_l2Crash.f a0_0 l0_1 l1).bind fun bt157 => (some (bt157.1, bt157.2))) else (some ((⟨#[]⟩ : ByteArray), ([] : List (S67)))))) = some (r1, r2) := h
  clear h
  replace H := Option.bind_eq_some_iff.mp H
  obtain ⟨t156, A30, H⟩ := H
  replace H : (if t156 = true then ((spec_l2Crash.f a0_0 l0_1 l1).bind fun bt157 => (some (bt157.1, bt157.2))) else (some ((⟨#[]⟩ : ByteArray), ([] : List (S67))))) = some (r1, r2) := H
  have A3 := Aside0.mk A30
  clear A30
  by_cases c4 : t156 = true
  · subst c4
    have H1 : ((spec_l2Crash.f a0_0 l0_1 l1).bind fun bt157 => (some (bt157.1, bt157.2))) = some (r1, r2) := by rw [if_pos rfl] at H; exact H
    clear H
    have H := H1
    clear H1
    replace H := Option.bind_eq_some_iff.mp H
    obtain ⟨⟨t157, t158⟩, A50, H⟩ := H
    replace H : (some (t157, t158)) = some (r1, r2) := H
    have A5 := Aside0.mk A50
    clear A50
    simp only [Option.some.injEq, Prod.mk.injEq] at H
    obtain ⟨rfl, rfl⟩ := H
    go_enter Try.func25, Try.ntmps25
    go_wp2_with (first | ((with_reducible refine gate_dst (N := 2) rfl ?_); refine box_event ?hg (N := 2) ?hd (cs := #[.string a0_0, .slice A0_1 l0_1.length c0_1]) (t := 30) ?hr ?_; (case hd => rfl); (case hg => rfl); (case hr => first | (go_simp; done) | (go_simp; rfl)); intro gb154 hg w6 hbox hb; have n0_ := Aside0.mk (below_step (by repeat (first | (with_reducible first | exact HB.out | apply below_alloc | apply pw_below_drewN | apply below_drew1) | exact HB.out)) hb); have n1_ := Aside0.mk (hbox); have n2_ := Aside0.mk ((by rw [hg]; exact (below_size (by repeat (first | (with_reducible first | exact HB.out | apply below_alloc | apply pw_below_drewN | apply below_drew1) | exact HB.out))) : w.heap.size ≤ gb154)); have n3_ := Aside0.mk ((by rw [hg]; exact (below_size (by repeat (first | (with_reducible first | exact HB.out | apply below_alloc | apply pw_below_drewN | apply below_drew1) | exact HB.out))) : w.heap.size ≤ gb154)); clear HB; have HB := n0_; have BK154 := n1_; have GW154 := n2_; have GE154 := n3_; clear n0_ n1_ n2_ n3_; clear hb hbox hg) | ((with_reducible refine gate_dst (N := 4) rfl ?_); refine box_event ?hg (N := 4) ?hd (cs := #[.string (⟨#[]⟩ : ByteArray), .slice none 0 0]) (t := 30) ?hr ?_; (case hd => rfl); (case hg => rfl); (case hr => first | (go_simp; done) | (go_simp; rfl)); intro gb155 hg w7 hbox hb; have n0_ := Aside0.mk (blk_below (g := gb154) (o := .cells #[.string a0_0, .slice A0_1 l0_1.length c0_1] 30 (0, 0)) (by (with_reducible repeat (first | refine blk_drewN ?_ _ | refine blk_drew ?_ | refine blk_alloc ?_ _)); exact BK154.out) hb); have n1_ := Aside0.mk (below_step (by repeat (first | (with_reducible first | exact HB.out | apply below_alloc | apply pw_below_drewN | apply below_drew1 | refine below_set ?_ GE154.out) | exact HB.out)) hb); have n2_ := Aside0.mk (hbox); have n3_ := Aside0.mk ((by rw [hg]; exact (below_size (by repeat (first | (with_reducible first | exact HB.out | apply below_alloc | apply pw_below_drewN | apply below_drew1 | refine below_set ?_ GE154.out) | exact HB.out))) : w.heap.size ≤ gb155)); have n4_ := Aside0.mk ((by rw [hg]; exact (below_size (by repeat (first | (with_reducible first | exact HB.out | apply below_alloc | apply pw_below_drewN | apply below_drew1 | refine below_set ?_ GE154.out) | exact HB.out))) : w.heap.size ≤ gb155)); have n5_ := Aside0.mk ((by rw [hg]; exact Nat.ne_of_lt (blk_lt (g := gb154) (o := .cells #[.string a0_0, .slice A0_1 l0_1.length c0_1] 30 (0, 0)) (by (with_reducible repeat (first | refine blk_drewN ?_ _ | refine blk_drew ?_ | refine blk_alloc ?_ _)); exact BK154.out)) : gb154 ≠ gb155)); have n6_ := Aside0.mk ((by rw [hg]; exact Nat.ne_of_gt (blk_lt (g := gb154) (o := .cells #[.string a0_0, .slice A0_1 l0_1.length c0_1] 30 (0, 0)) (by (with_reducible repeat (first | refine blk_drewN ?_ _ | refine blk_drew ?_ | refine blk_alloc ?_ _)); exact BK154.out)) : gb155 ≠ gb154)); clear BK154; clear HB; have BK154 := n0_; have HB := n1_; have BK155 := n2_; have GW155 := n3_; have GE155 := n4_; have NB154_155 := n5_; have NB155_154 := n6_; clear n0_ n1_ n2_ n3_ n4_ n5_ n6_; clear hb hbox hg; have hnb8 := NB154_155.out; have hnc8 := NB155_154.out; have hcz9_0 : w7.cell? ⟨gb154, 0, none⟩ = some (.string a0_0) := (blk_cell BK154.out 0).trans rfl; have hcz9_1 : w7.cell? ⟨gb154, 1, none⟩ = some (.slice A0_1 l0_1.length c0_1) := (blk_cell BK154.out 1).trans rfl; have hfz9_0 := blk_frozen BK154.out 0; have hfz9_1 := blk_frozen BK154.out 1) | ((with_reducible refine gate_callee (f := 46) rfl ?_); refine goesL_ (some 6) rfl rfl Try.func46 (by kernel_rfl) rfl #[.agg #[.string a0_0, .slice A0_1 l0_1.length c0_1]] rfl (by (try simp only [List.map_toArray, List.map_cons, List.map_nil]); first | done | rfl | (simp only [List.length_drop, List.length_take]; rfl)) ?_; (with_reducible refine (spec_DeviceOk.calls k a0_0 _ _ l0_1 true _ ?side1 ?side2 A3.out).mono ?_); (case side1 => repeat (first | exact (Kd.C_below HR0_1.out HB.out) | (with_reducible refine Kd.C_alloc ?_ _) | (with_reducible refine Kd.C_drewN ?_ _) | (with_reducible refine Kd.C_drew ?_))); (case side2 => exact HC0_1.out); rintro e w10 ⟨rfl, hb⟩; refine ⟨_, rfl, ?_⟩; have n0_ := Aside0.mk (blk_below (g := gb154) (o := .cells #[.string a0_0, .slice A0_1 l0_1.length c0_1] 30 (0, 0)) (by (with_reducible repeat (first | refine blk_drewN ?_ _ | refine blk_drew ?_ | refine blk_alloc ?_ _)); exact BK154.out) hb); have n1_ := Aside0.mk (blk_below (g := gb155) (o := .cells #[.string (⟨#[]⟩ : ByteArray), .slice none 0 0] 30 (0, 0)) (by (with_reducible repeat (first | refine blk_drewN ?_ _ | refine blk_drew ?_ | refine blk_alloc ?_ _)); exact BK155.out) hb); have n2_ := Aside0.mk (below_step (by repeat (first | (with_reducible first | exact HB.out | apply below_alloc | apply pw_below_drewN | apply below_drew1 | refine below_set ?_ GE154.out | refine below_set ?_ GE155.out) | exact HB.out)) hb); clear BK154; clear BK155; clear HB; have BK154 := n0_; have BK155 := n1_; have HB := n2_; clear n0_ n1_ n2_; (try clear hb); (try clear hb2); (try clear hk); (try clear hi); have hcz11_0 : w10.cell? ⟨gb154, 0, none⟩ = some (.string a0_0) := (blk_cell BK154.out 0).trans rfl; have hcz11_1 : w10.cell? ⟨gb154, 1, none⟩ = some (.slice A0_1 l0_1.length c0_1) := (blk_cell BK154.out 1).trans rfl; have hfz11_0 := blk_frozen BK154.out 0; have hfz11_1 := blk_frozen BK154.out 1) | ((with_reducible refine gate_callee (f := 61) rfl ?_); refine goesL_ (some 11) rfl rfl Try.func61 (by kernel_rfl) rfl #[.agg #[.string a0_0, .slice A0_1 l0_1.length c0_1], .slice A1 l1.length c1] rfl (by (try simp only [List.map_toArray, List.map_cons, List.map_nil]); first | done | rfl | (simp only [List.length_drop, List.length_take]; rfl)) ?_; (with_reducible refine (spec_l2Crash.calls a0_0 _ _ l0_1 _ _ l1 t157 t158 _ ?side1 ?side2 ?side3 ?side4 A5.out).mono ?_); (case side1 => repeat (first | exact (Kd.C_below HR0_1.out HB.out) | (with_reducible refine Kd.C_alloc ?_ _) | (with_reducible refine Kd.C_drewN ?_ _) | (with_reducible refine Kd.C_drew ?_))); (case side2 => exact HC0_1.out); (case side3 => repeat (first | exact (Kd.C_below HR1.out HB.out) | (with_reducible refine Kd.C_alloc ?_ _) | (with_reducible refine Kd.C_drewN ?_ _) | (with_reducible refine Kd.C_drew ?_))); (case side4 => exact HC1.out); rintro e w12 ⟨v159, rfl, ho0, hb⟩; refine ⟨_, rfl, ?_⟩; have n0_ := Aside0.mk (Kd.R_lower ho0 (below_size (by repeat (first | (with_reducible first | exact HB.out | apply below_alloc | apply pw_below_drewN | apply below_drew1 | refine below_set ?_ GE154.out | refine below_set ?_ GE155.out) | exact HB.out)))); have n1_ := Aside0.mk (blk_below (g := gb154) (o := .cells #[.string a0_0, .slice A0_1 l0_1.length c0_1] 30 (0, 0)) (by (with_reducible repeat (first | refine blk_drewN ?_ _ | refine blk_drew ?_ | refine blk_alloc ?_ _)); exact BK154.out) hb); have n2_ := Aside0.mk (blk_below (g := gb155) (o := .cells #[.string (⟨#[]⟩ : ByteArray), .slice none 0 0] 30 (0, 0)) (by (with_reducible repeat (first | refine blk_drewN ?_ _ | refine blk_drew ?_ | refine blk_alloc ?_ _)); exact BK155.out) hb); have n3_ := Aside0.mk (below_step (by repeat (first | (with_reducible first | exact HB.out | apply below_alloc | apply pw_below_drewN | apply below_drew1 | refine below_set ?_ GE154.out | refine below_set ?_ GE155.out) | exact HB.out)) hb); clear BK154; clear BK155; clear HB; have HO160 := n0_; have BK154 := n1_; have BK155 := n2_; have HB := n3_; clear n0_ n1_ n2_ n3_; (try clear hb); (try clear hb2); (try clear hk); (try clear hi); (try clear ho0); have hcz13_0 : w12.cell? ⟨gb155, 0, none⟩ = some (.string (⟨#[]⟩ : ByteArray)) := (blk_cell BK155.out 0).trans rfl; have hcz13_1 : w12.cell? ⟨gb155, 1, none⟩ = some (.slice none 0 0) := (blk_cell BK155.out 1).trans rfl; have hfz13_0 := blk_frozen BK155.out 0; have hfz13_1 := blk_frozen BK155.out 1; obtain ⟨Ao14, co14, eo14⟩ := Kd.R_slice HO160.out; subst eo14))
    refine bodyPost_ret (results_cell_row rfl _ _ gb155 30 #[.string t157, .slice Ao14 t158.length co14] (0, 0) _ rfl (by (with_reducible repeat (first | refine blk_drewN ?_ _ | refine blk_drew ?_ | refine blk_alloc ?_ _)); refine blk_put (cs := #[.string t157, .slice none 0 0]) ?_ 1 _ rfl; (with_reducible repeat (first | refine blk_drewN ?_ _ | refine blk_drew ?_ | refine blk_alloc ?_ _)); refine blk_put (cs := #[.string (⟨#[]⟩ : ByteArray), .slice none 0 0]) ?_ 0 _ rfl; (with_reducible repeat (first | refine blk_drewN ?_ _ | refine blk_drew ?_ | refine blk_alloc ?_ _)); exact BK155.out) Try.underlying30 rfl (by kernel_rfl)) rfl ?_
    exact ⟨_, by first | rfl | (simp [errW_none, errW_some] <;> rfl) | (simp [*, errW_none, errW_some] <;> rfl), by (with_reducible repeat (first | apply Kd.R_alloc | apply Kd.R_drewN | apply Kd.R_drew)); exact Kd.R_mono (Kd.R_far (p := ⟨gb155, 1, none⟩) (Kd.R_far (p := ⟨gb155, 0, none⟩) (Kd.R_types HO160.out BK155.out (by decide)) (fun _ hk => hk.2) (.string t157)) (fun _ hk => hk.2) (.slice Ao14 t158.length co14)) (fun _ hk => trivial), by repeat (first | (with_reducible first | exact HB.out | apply below_alloc | apply pw_below_drewN | apply below_drew1 | refine below_set ?_ GE154.out | refine below_set ?_ GE155.out) | exact HB.out)⟩
  · replace c4 := Bool.eq_false_iff.mpr c4
    subst c4
    have H1 : (some ((⟨#[]⟩ : ByteArray), ([] : List (S67)))) = some (r1, r2) := by rw [if_neg (show ¬ (false = true) by decide)] at H; exact H
    clear H
    have H := H1
    clear H1
    simp only [Option.some.injEq, Prod.mk.injEq] at H
    obtain ⟨rfl, rfl⟩ := H
    go_enter Try.func25, Try.ntmps25
    go_wp2_with (first | ((with_reducible refine gate_dst (N := 2) rfl ?_); refine box_event ?hg (N := 2) ?hd (cs := #[.string a0_0, .slice A0_1 l0_1.length c0_1]) (t := 30) ?hr ?_; (case hd => rfl); (case hg => rfl); (case hr => first | (go_simp; done) | (go_simp; rfl)); intro gb154 hg w15 hbox hb; have n0_ := Aside0.mk (below_step (by repeat (first | (with_reducible first | exact HB.out | apply below_alloc | apply pw_below_drewN | apply below_drew1) | exact HB.out)) hb); have n1_ := Aside0.mk (hbox); have n2_ := Aside0.mk ((by rw [hg]; exact (below_size (by repeat (first | (with_reducible first | exact HB.out | apply below_alloc | apply pw_below_drewN | apply below_drew1) | exact HB.out))) : w.heap.size ≤ gb154)); have n3_ := Aside0.mk ((by rw [hg]; exact (below_size (by repeat (first | (with_reducible first | exact HB.out | apply below_alloc | apply pw_below_drewN | apply below_drew1) | exact HB.out))) : w.heap.size ≤ gb154)); clear HB; have HB := n0_; have BK154 := n1_; have GW154 := n2_; have GE154 := n3_; clear n0_ n1_ n2_ n3_; clear hb hbox hg) | ((with_reducible refine gate_dst (N := 4) rfl ?_); refine box_event ?hg (N := 4) ?hd (cs := #[.string (⟨#[]⟩ : ByteArray), .slice none 0 0]) (t := 30) ?hr ?_; (case hd => rfl); (case hg => rfl); (case hr => first | (go_simp; done) | (go_simp; rfl)); intro gb155 hg w16 hbox hb; have n0_ := Aside0.mk (blk_below (g := gb154) (o := .cells #[.string a0_0, .slice A0_1 l0_1.length c0_1] 30 (0, 0)) (by (with_reducible repeat (first | refine blk_drewN ?_ _ | refine blk_drew ?_ | refine blk_alloc ?_ _)); exact BK154.out) hb); have n1_ := Aside0.mk (below_step (by repeat (first | (with_reducible first | exact HB.out | apply below_alloc | apply pw_below_drewN | apply below_drew1 | refine below_set ?_ GE154.out) | exact HB.out)) hb); have n2_ := Aside0.mk (hbox); have n3_ := Aside0.mk ((by rw [hg]; exact (below_size (by repeat (first | (with_reducible first | exact HB.out | apply below_alloc | apply pw_below_drewN | apply below_drew1 | refine below_set ?_ GE154.out) | exact HB.out))) : w.heap.size ≤ gb155)); have n4_ := Aside0.mk ((by rw [hg]; exact (below_size (by repeat (first | (with_reducible first | exact HB.out | apply below_alloc | apply pw_below_drewN | apply below_drew1 | refine below_set ?_ GE154.out) | exact HB.out))) : w.heap.size ≤ gb155)); have n5_ := Aside0.mk ((by rw [hg]; exact Nat.ne_of_lt (blk_lt (g := gb154) (o := .cells #[.string a0_0, .slice A0_1 l0_1.length c0_1] 30 (0, 0)) (by (with_reducible repeat (first | refine blk_drewN ?_ _ | refine blk_drew ?_ | refine blk_alloc ?_ _)); exact BK154.out)) : gb154 ≠ gb155)); have n6_ := Aside0.mk ((by rw [hg]; exact Nat.ne_of_gt (blk_lt (g := gb154) (o := .cells #[.string a0_0, .slice A0_1 l0_1.length c0_1] 30 (0, 0)) (by (with_reducible repeat (first | refine blk_drewN ?_ _ | refine blk_drew ?_ | refine blk_alloc ?_ _)); exact BK154.out)) : gb155 ≠ gb154)); clear BK154; clear HB; have BK154 := n0_; have HB := n1_; have BK155 := n2_; have GW155 := n3_; have GE155 := n4_; have NB154_155 := n5_; have NB155_154 := n6_; clear n0_ n1_ n2_ n3_ n4_ n5_ n6_; clear hb hbox hg; have hnb17 := NB154_155.out; have hnc17 := NB155_154.out; have hcz18_0 : w16.cell? ⟨gb154, 0, none⟩ = some (.string a0_0) := (blk_cell BK154.out 0).trans rfl; have hcz18_1 : w16.cell? ⟨gb154, 1, none⟩ = some (.slice A0_1 l0_1.length c0_1) := (blk_cell BK154.out 1).trans rfl; have hfz18_0 := blk_frozen BK154.out 0; have hfz18_1 := blk_frozen BK154.out 1) | ((with_reducible refine gate_callee (f := 46) rfl ?_); refine goesL_ (some 6) rfl rfl Try.func46 (by kernel_rfl) rfl #[.agg #[.string a0_0, .slice A0_1 l0_1.length c0_1]] rfl (by (try simp only [List.map_toArray, List.map_cons, List.map_nil]); first | done | rfl | (simp only [List.length_drop, List.length_take]; rfl)) ?_; (with_reducible refine (spec_DeviceOk.calls k a0_0 _ _ l0_1 false _ ?side1 ?side2 A3.out).mono ?_); (case side1 => repeat (first | exact (Kd.C_below HR0_1.out HB.out) | (with_reducible refine Kd.C_alloc ?_ _) | (with_reducible refine Kd.C_drewN ?_ _) | (with_reducible refine Kd.C_drew ?_))); (case side2 => exact HC0_1.out); rintro e w19 ⟨rfl, hb⟩; refine ⟨_, rfl, ?_⟩; have n0_ := Aside0.mk (blk_below (g := gb154) (o := .cells #[.string a0_0, .slice A0_1 l0_1.length c0_1] 30 (0, 0)) (by (with_reducible repeat (first | refine blk_drewN ?_ _ | refine blk_drew ?_ | refine blk_alloc ?_ _)); exact BK154.out) hb); have n1_ := Aside0.mk (blk_below (g := gb155) (o := .cells #[.string (⟨#[]⟩ : ByteArray), .slice none 0 0] 30 (0, 0)) (by (with_reducible repeat (first | refine blk_drewN ?_ _ | refine blk_drew ?_ | refine blk_alloc ?_ _)); exact BK155.out) hb); have n2_ := Aside0.mk (below_step (by repeat (first | (with_reducible first | exact HB.out | apply below_alloc | apply pw_below_drewN | apply below_drew1 | refine below_set ?_ GE154.out | refine below_set ?_ GE155.out) | exact HB.out)) hb); clear BK154; clear BK155; clear HB; have BK154 := n0_; have BK155 := n1_; have HB := n2_; clear n0_ n1_ n2_; (try clear hb); (try clear hb2); (try clear hk); (try clear hi); have hcz20_0 : w19.cell? ⟨gb155, 0, none⟩ = some (.string (⟨#[]⟩ : ByteArray)) := (blk_cell BK155.out 0).trans rfl; have hcz20_1 : w19.cell? ⟨gb155, 1, none⟩ = some (.slice none 0 0) := (blk_cell BK155.out 1).trans rfl; have hfz20_0 := blk_frozen BK155.out 0; have hfz20_1 := blk_frozen BK155.out 1))
    refine bodyPost_ret (results_cell_row rfl _ _ gb155 30 #[.string (⟨#[]⟩ : ByteArray), .slice none 0 0] (0, 0) _ rfl (by (with_reducible repeat (first | refine blk_drewN ?_ _ | refine blk_drew ?_ | refine blk_alloc ?_ _)); refine blk_put (cs := #[.string (⟨#[]⟩ : ByteArray), .slice none 0 0]) ?_ 1 _ rfl; (with_reducible repeat (first | refine blk_drewN ?_ _ | refine blk_drew ?_ | refine blk_alloc ?_ _)); refine blk_put (cs := #[.string (⟨#[]⟩ : ByteArray), .slice none 0 0]) ?_ 0 _ rfl; (with_reducible repeat (first | refine blk_drewN ?_ _ | refine blk_drew ?_ | refine blk_alloc ?_ _)); exact BK155.out) Try.underlying30 rfl (by kernel_rfl)) rfl ?_
    exact ⟨_, by first | rfl | (simp [errW_none, errW_some] <;> rfl) | (simp [*, errW_none, errW_some] <;> rfl), by first | exact Kd.R_nil _ _ _ _ _ | exact Kd.N_nil _ _ _ _ _ | exact Kd.V_nil _ _ _ _ _ | exact Kd.Q_nil _ _ _ _ _ | exact Kd.S_nil _ _ _ _ _, by repeat (first | (with_reducible first | exact HB.out | apply below_alloc | apply pw_below_drewN | apply below_drew1 | refine below_set ?_ GE154.out | refine below_set ?_ GE155.out) | exact HB.out)⟩

/-! ### laws_toInt64S: function 26 -/
def laws_toInt64S.l0 : Nat → List Int → List Int → Int → Option (List Int)
  | 0, _, _, _ => none
  | k + 1, x0, x3, x4 => if x4 < (x0.length : Int) then (if 0 ≤ x4 then (if x4 < (x3.length : Int) then (laws_toInt64S.l0 k x0 (x3.set (x4 : Int).toNat (rd x0 x4)) (wrap64 (x4 + 1))) else (none)) else (none)) else (some x3)
def laws_toInt64S.f (k : Nat) (l0 : List Int) : Option (List Int) := if 0 ≤ (l0.length : Int) then (if ((l0.length : Int) : Int).toNat ≤ 35184372088832 then (laws_toInt64S.l0 k l0 (List.replicate ((l0.length : Int) : Int).toNat 0) 0) else (none)) else (none)
theorem laws_toInt64S.mono_l : ∀ k, (∀ y0 y1 y2, LeO (laws_toInt64S.l0 k y0 y1 y2) (laws_toInt64S.l0 (k + 1) y0 y1 y2))
  | 0 => fun _ _ _ r h => by simp [laws_toInt64S.l0] at h
  | k + 1 => by
    have ih0 := laws_toInt64S.mono_l k
    · intro y0 y1 y2
      unfold laws_toInt64S.l0
      repeat' first
      | (with_reducible exact ih0 _ _ _)
      | (with_reducible exact LeO.refl _)
      | (with_reducible exact LeO.none _)
      | (with_reducible refine LeO.ite ?_ ?_)
      | (with_reducible refine LeO.bind ?_ (fun _ => ?_))
      | exact ih0 _ _ _
      | exact LeO.none _
      | refine LeO.ite ?_ ?_
      | refine LeO.bind ?_ (fun _ => ?_)
theorem laws_toInt64S.mono : ∀ a0 k, LeO (laws_toInt64S.f k a0) (laws_toInt64S.f (k + 1) a0) := by
  intro a0 k
  have ih0 := laws_toInt64S.mono_l k
  unfold laws_toInt64S.f
  repeat' first
      | (with_reducible exact ih0 _ _ _)
      | (with_reducible exact LeO.refl _)
      | (with_reducible exact LeO.none _)
      | (with_reducible refine LeO.ite ?_ ?_)
      | (with_reducible refine LeO.bind ?_ (fun _ => ?_))
      | exact ih0 _ _ _
      | exact LeO.none _
      | refine LeO.ite ?_ ?_
      | refine LeO.bind ?_ (fun _ => ?_)
set_option maxHeartbeats 8000000 in
set_option maxRecDepth 100000 in
theorem laws_toInt64S.calls (k : Nat) (A0 : Option Addr) (c0 : Nat) (l0 : List Int) (r : List Int) (w : World) (hr0 : Kd.C (Kd.int .i64) w A0 l0.length l0) (hc0 : l0.length ≤ c0) (h : laws_toInt64S.f k l0 = some r) :
    Calls Try.prog 26 #[.slice A0 l0.length c0] w fun e w' => ∃ v0_ : Value, e = .returned (v0_) ∧ Kd.R (Kd.int .i64) 2 w' w.heap.size (fun _ => True) v0_ r ∧ Below w.heap.size w w' := by
  have HR0 := Aside0.mk hr0
  have HC0 := Aside0.mk hc0
  clear hr0 hc0
  have HB := Aside0.mk (Below.refl w.heap.size w)
  have H : (if 0 ≤ (l0.length : Int) then (if ((l0.length : Int) : Int).toNat ≤ 35184372088832 then (laws_toInt64S.l0 k l0 (List.replicate ((l0.length : Int) : Int).toNat 0) 0) else (none)) else (none)) = some r := h
  clear h
  by_cases c2 : 0 ≤ (l0.length : Int)
  · rw [if_pos c2] at H
    have c2b0 := eq_true c2
    have c2b1 : decide (0 ≤ (l0.length : Int)) = true := decide_eq_true c2
    clear c2
    by_cases c3 : ((l0.length : Int) : Int).toNat ≤ 35184372088832
    · rw [if_pos c3] at H
      have c3b0 := eq_true c3
      have c3b1 : decide (((l0.length : Int) : Int).toNat ≤ 35184372088832) = true := decide_eq_true c3
      clear c3
      obtain ⟨y161, hy161⟩ : ∃ y_ : List Int, y_ = (List.replicate ((l0.length : Int) : Int).toNat 0) := ⟨_, rfl⟩
      replace H : (laws_toInt64S.l0 k l0 y161 0) = some r := by first | (rw [hy161]; with_reducible exact H) | (have H2_ := (Option.bind_some _ _).symm.trans H; rw [hy161]; with_reducible exact H2_) | (have H2_ := (Option.bind_some _ _).symm.trans H; with_reducible exact H2_) | with_reducible exact H | (rw [hy161]; exact H) | exact H
      have Ny161 := Aside0.mk hy161
      clear hy161
      have H' := Aside0.mk H
      clear H
      go_enter Try.func26, Try.ntmps26
      go_wp2_with (first | ((with_reducible refine gate_dst (N := 7) rfl ?_); refine Kd.R_make (Kd.int .i64) _ 2 rfl (N := 7) rfl 26 _ _ rfl (l0.length : Int) rfl rfl Try.underlying26 (.int .i64 0) 8 info2 rfl (by decide) (by omega) 0 (ok := fun _ => True) (okp := fun _ => True) rfl (fun _ hk => hk) trivial (of_decide_eq_true (by first | (with_reducible assumption) | assumption)) (Nat.le_trans (Nat.mul_le_mul_right _ (of_decide_eq_true (by first | (with_reducible assumption) | assumption) : (l0.length : Int).toNat ≤ 35184372088832)) (by omega)) (Below.refl _ _) (Nat.le_refl _) ?_; intro v162 w4 ho5 hb hg_ hnew_; clear hg_ hnew_; (first | rw [← Ny161.out] at ho5 | (simp only [Int.reduceToNat] at ho5; rw [← Ny161.out] at ho5)); have n0_ := Aside0.mk (Kd.R_lower ho5 (below_size (by repeat (first | (with_reducible first | exact HB.out | apply below_alloc | apply pw_below_drewN | apply below_drew1) | exact HB.out)))); have n1_ := Aside0.mk (below_step (by repeat (first | (with_reducible first | exact HB.out | apply below_alloc | apply pw_below_drewN | apply below_drew1) | exact HB.out)) hb); clear HB; have HO163 := n0_; have HB := n1_; clear n0_ n1_; clear hb ho5))
      go_loopg [4] k (fun kq v4 w' => ∃ (x3_1 : List Int) (x4_1 : Int), v4 = .int .i64 x4_1 ∧ Aside0 (laws_toInt64S.l0 kq l0 x3_1 x4_1 = some r) ∧ Aside0 (kq ≤ k) ∧ Aside0 (Kd.R (Kd.int .i64) 2 w' w.heap.size (fun _ => True) v162 x3_1) ∧ Aside0 (Below w.heap.size w w'))
      case atStart => exact ⟨(y161), (0), (by first | rfl | (simp; done) | (simp [*]; done)), H', ⟨Nat.le_refl _⟩, ⟨by (with_reducible repeat (first | apply Kd.R_alloc | apply Kd.R_drewN | apply Kd.R_drew)); exact HO163.out⟩, ⟨by repeat (first | (with_reducible first | exact HB.out | apply below_alloc | apply pw_below_drewN | apply below_drew1) | exact HB.out)⟩⟩
      case round =>
        clear H'
        try clear c2
        try clear c2b0
        try clear c2b1
        try clear p2
        try clear c3
        try clear c3b0
        try clear c3b1
        obtain ⟨x3_1, x4_1, rfl, HA, HK1, HO_3, HB⟩ := hrel
        cases gk with
        | zero => exact absurd HA.out (by simp [laws_toInt64S.l0])
        | succ k1 =>
          have H := HA.out
          clear HA
          simp only [laws_toInt64S.l0] at H
          by_cases c6 : x4_1 < (l0.length : Int)
          · rw [if_pos c6] at H
            have c6b0 : decide (x4_1 < (l0.length : Int)) = true := decide_eq_true c6
            clear c6
            by_cases c7 : 0 ≤ x4_1
            · rw [if_pos c7] at H
              have c7b0 : decide (0 ≤ x4_1) = true := decide_eq_true c7
              clear c7
              by_cases c8 : x4_1 < (x3_1.length : Int)
              · rw [if_pos c8] at H
                have c8b0 : decide (x4_1 < (x3_1.length : Int)) = true := decide_eq_true c8
                clear c8
                obtain ⟨y165, hy165⟩ : ∃ y_ : List Int, y_ = (x3_1.set (x4_1 : Int).toNat (rd l0 x4_1)) := ⟨_, rfl⟩
                replace H : (laws_toInt64S.l0 k1 l0 y165 (wrap64 (x4_1 + 1))) = some r := by first | (rw [hy165]; with_reducible exact H) | (have H2_ := (Option.bind_some _ _).symm.trans H; rw [hy165]; with_reducible exact H2_) | (have H2_ := (Option.bind_some _ _).symm.trans H; with_reducible exact H2_) | with_reducible exact H | (rw [hy165]; exact H) | exact H
                have Ny165 := Aside0.mk hy165
                clear hy165
                have H' := Aside0.mk H
                clear H
                have p164 : 0 ≤ (x4_1 : Int) := of_decide_eq_true (by first | (with_reducible assumption) | assumption)
                have q164 : x4_1 < (l0.length : Int) := of_decide_eq_true (by first | (with_reducible assumption) | assumption)
                obtain ⟨ad164, e164, hx164_0⟩ := Kd.at_int HR0.out x4_1 p164 q164
                cases e164
                replace hx164_0 := (HB.out.cell (World.block_lt_of_cell? w _ hx164_0)).trans hx164_0
                replace p164 := eq_true p164
                replace q164 := eq_true q164
                have p9 : 0 ≤ (x4_1 : Int) := of_decide_eq_true (by first | (with_reducible assumption) | assumption)
                have q9 : (x4_1 : Int) < ((x3_1.length : Int) : Int) := of_decide_eq_true (by first | (with_reducible assumption) | assumption)
                obtain ⟨go9, co9, eo9, gb9, gl9, cl9, HG9⟩ := Kd.R_form HO_3.out (by omega)
                (first | cases eo9 | (injection eo9 with ea_ en_ ec_; (first | subst ea_ | (injection ea_ with ea_; subst ea_)); subst ec_; clear en_))
                have GB9 := Aside0.mk gb9
                have GG9 := Aside0.mk HG9
                clear gb9 gl9 HG9
                obtain ⟨hx9_0, hf9_0⟩ := Kd.R_celln 0 HO_3.out (x4_1 : Int) p9 q9
                replace p9 := eq_true p9
                replace q9 := eq_true q9
                have HP10 := Kd.R_putg HO_3.out (x4_1 : Int) (rd l0 x4_1)
                go_wp2_with (first | ((with_reducible refine gate_store (t := 2) (p := 20) rfl ?_); refine store_event (t := 2) (p := 20) (v := ?vo_w11) (w1 := (wr.setCell ⟨go9, (x4_1 : Int).toNat, none⟩ (.int .i64 (rd l0 x4_1)))) ?hg ?ho ?hn ?hr ?_; (case ho => rfl); (case hg => rfl); (case hn => rfl); (case hr => first | (go_simp; done) | (go_simp; rfl)); intro w11 hw; have hg : wr.grownBy w11 (some go9) := (by rw [hw]; exact HP10.2); have hp_ : Kd.R (Kd.int .i64) 2 w11 w.heap.size (fun _ => True) (.slice (some ⟨go9, 0, none⟩) x3_1.length co9) y165 := (by rw [hw, Ny165.out]; exact HP10.1); clear HP10; have n0_ := Aside0.mk (hp_); have n1_ := Aside0.mk ((by rw [hw]; exact below_set (HB.out) GB9.out : Below w.heap.size w w11)); clear HO_3; clear HB; have HO_3 := n0_; have HB := n1_; clear n0_ n1_; clear hg hw hp_))
                go_roundg k1
                case measure => have := HK1.out; omega
                case rel => exact ⟨(y165), (wrap64 (x4_1 + 1)), (by first | rfl | (simp; done) | (simp [*]; done)), H', ⟨by have := HK1.out; omega⟩, ⟨by (with_reducible repeat (first | apply Kd.R_alloc | apply Kd.R_drewN | apply Kd.R_drew)); exact HO_3.out⟩, ⟨by repeat (first | (with_reducible first | exact HB.out | apply below_alloc | apply pw_below_drewN | apply below_drew1) | exact HB.out)⟩⟩
              · rw [if_neg c8] at H
                exact absurd H (by simp)
            · rw [if_neg c7] at H
              exact absurd H (by simp)
          · rw [if_neg c6] at H
            have c6b0 : decide (x4_1 < (l0.length : Int)) = false := decide_eq_false c6
            clear c6
            obtain rfl := Option.some.inj H
            go_wp2
            go_ret
            exact ⟨_, by first | rfl | (simp [errW_none, errW_some] <;> rfl) | (simp [*, errW_none, errW_some] <;> rfl), by (with_reducible repeat (first | apply Kd.R_alloc | apply Kd.R_drewN | apply Kd.R_drew)); exact HO_3.out, by repeat (first | (with_reducible first | exact HB.out | apply below_alloc | apply pw_below_drewN | apply below_drew1) | exact HB.out)⟩
    · rw [if_neg c3] at H
      exact absurd H (by simp)
  · rw [if_neg c2] at H
    exact absurd H (by simp)

/-! ### impl_within: function 69 -/
def impl_within.f (a0 : Int) (a1 : Int) (a2 : Int) : Option (Bool) := if a0 ≥ a1 then (some (decide (a0 ≤ a2))) else (some false)
set_option maxHeartbeats 8000000 in
set_option maxRecDepth 100000 in
theorem impl_within.calls (a0 : Int) (a1 : Int) (a2 : Int) (r : Bool) (w : World) (h : impl_within.f a0 a1 a2 = some r) :
    Calls Try.prog 69 #[.int .i64 a0, .int .i64 a1, .int .i64 a2] w fun e w' => e = .returned (.bool r) ∧ Drawn0 w w' := by
  have H : (if a0 ≥ a1 then (some (decide (a0 ≤ a2))) else (some false)) = some r := h
  clear h
  by_cases c4 : a0 ≥ a1
  · rw [if_pos c4] at H
    have c4b0 : decide (a1 ≤ a0) = true := decide_eq_true c4
    clear c4
    obtain rfl := Option.some.inj H
    go_enter Try.func69, Try.ntmps69
    go_wp2
    go_ret
    exact ⟨by first | rfl | (simp; done) | (simp [*]; done), by repeat (first | exact Drawn0.refl _ | apply Drawn0.step)⟩
  · rw [if_neg c4] at H
    have c4b0 : decide (a1 ≤ a0) = false := decide_eq_false c4
    clear c4
    obtain rfl := Option.some.inj H
    go_enter Try.func69, Try.ntmps69
    go_wp2
    go_ret
    exact ⟨by first | rfl | (simp; done) | (simp [*]; done), by repeat (first | exact Drawn0.refl _ | apply Drawn0.step)⟩

/-! ### impl_Device_has: function 73 -/
def impl_Device_has.f (a0_0 : ByteArray) (l0_1 : List (S67)) (a1 : Int) : Option (Bool) := (impl_within.f a1 0 (wrap64 ((wrap64 ((a0_0.size : Int) / 64)) - 1))).bind fun t167 => (some t167)
set_option maxHeartbeats 8000000 in
set_option maxRecDepth 100000 in
theorem impl_Device_has.calls (a0_0 : ByteArray) (A0_1 : Option Addr) (c0_1 : Nat) (l0_1 : List (S67)) (a1 : Int) (r : Bool) (w : World) (hr0_1 : Kd.C k67 w A0_1 l0_1.length l0_1) (hc0_1 : l0_1.length ≤ c0_1) (h : impl_Device_has.f a0_0 l0_1 a1 = some r) :
    Calls Try.prog 73 #[.agg #[.string a0_0, .slice A0_1 l0_1.length c0_1], .int .i64 a1] w fun e w' => e = .returned (.bool r) ∧ Below w.heap.size w w' := by
  have hu30 := Try.underlying30
  have HR0_1 := Aside0.mk hr0_1
  have HC0_1 := Aside0.mk hc0_1
  clear hr0_1 hc0_1
  have HB := Aside0.mk (Below.refl w.heap.size w)
  have H : ((impl_within.f a1 0 (wrap64 ((wrap64 ((a0_0.size : Int) / 64)) - 1))).bind fun t167 => (some t167)) = some r := h
  clear h
  replace H := Option.bind_eq_some_iff.mp H
  obtain ⟨t167, A30, H⟩ := H
  replace H : (some t167) = some r := H
  have A3 := Aside0.mk A30
  clear A30
  obtain rfl := Option.some.inj H
  go_enter Try.func73, Try.ntmps73
  go_wp2_with (first | ((with_reducible refine gate_dst (N := 2) rfl ?_); refine box_event ?hg (N := 2) ?hd (cs := #[.string a0_0, .slice A0_1 l0_1.length c0_1]) (t := 30) ?hr ?_; (case hd => rfl); (case hg => rfl); (case hr => first | (go_simp; done) | (go_simp; rfl)); intro gb166 hg w4 hbox hb; have n0_ := Aside0.mk (below_step (by repeat (first | (with_reducible first | exact HB.out | apply below_alloc | apply pw_below_drewN | apply below_drew1) | exact HB.out)) hb); have n1_ := Aside0.mk (hbox); have n2_ := Aside0.mk ((by rw [hg]; exact (below_size (by repeat (first | (with_reducible first | exact HB.out | apply below_alloc | apply pw_below_drewN | apply below_drew1) | exact HB.out))) : w.heap.size ≤ gb166)); have n3_ := Aside0.mk ((by rw [hg]; exact (below_size (by repeat (first | (with_reducible first | exact HB.out | apply below_alloc | apply pw_below_drewN | apply below_drew1) | exact HB.out))) : w.heap.size ≤ gb166)); clear HB; have HB := n0_; have BK166 := n1_; have GW166 := n2_; have GE166 := n3_; clear n0_ n1_ n2_ n3_; clear hb hbox hg; have hcz5_0 : w4.cell? ⟨gb166, 0, none⟩ = some (.string a0_0) := (blk_cell BK166.out 0).trans rfl; have hcz5_1 : w4.cell? ⟨gb166, 1, none⟩ = some (.slice A0_1 l0_1.length c0_1) := (blk_cell BK166.out 1).trans rfl; have hfz5_0 := blk_frozen BK166.out 0; have hfz5_1 := blk_frozen BK166.out 1) | ((with_reducible refine gate_callee (f := 69) rfl ?_); refine goesL_ (some 11) rfl rfl Try.func69 (by kernel_rfl) rfl #[.int .i64 a1, .int .i64 0, .int .i64 (wrap64 ((wrap64 ((a0_0.size : Int) / 64)) - 1))] rfl (by (try simp only [List.map_toArray, List.map_cons, List.map_nil]); first | done | rfl | (simp only [List.length_drop, List.length_take]; rfl) | ((try simp only [decide_eq_false_iff_not, decide_eq_true_eq, eq_iff_iff, iff_true, iff_false, Int.not_lt, Int.not_le, Nat.not_lt, Nat.not_le, ByteArray.size_append, ByteArray.size_extract] at *); (rw [show wrap64 ((a0_0.size : Int) / 64) = (a0_0.size : Int) / 64 from by unfold Go.RowKit.wrap64; omega]); rfl) | ((try simp only [decide_eq_false_iff_not, decide_eq_true_eq, eq_iff_iff, iff_true, iff_false, Int.not_lt, Int.not_le, Nat.not_lt, Nat.not_le, ByteArray.size_append, ByteArray.size_extract] at *); (rw [show wrap64 ((a0_0.size : Int) / 64) = (a0_0.size : Int) / 64 from by unfold Go.RowKit.wrap64; omega, show wrap64 ((((a0_0.size : Int) / 64)) - 1) = (((a0_0.size : Int) / 64)) - 1 from by unfold Go.RowKit.wrap64; omega]); rfl)) ?_; (with_reducible refine (impl_within.calls a1 0 (wrap64 ((wrap64 ((a0_0.size : Int) / 64)) - 1)) t167 _ A3.out).mono ?_); rintro e w' ⟨rfl, ⟨nd, rfl⟩⟩; refine ⟨_, rfl, ?_⟩))
  go_ret
  exact ⟨by first | rfl | (simp [errW_none, errW_some] <;> rfl) | (simp [*, errW_none, errW_some] <;> rfl), by repeat (first | (with_reducible first | exact HB.out | apply below_alloc | apply pw_below_drewN | apply below_drew1 | refine below_set ?_ GE166.out) | exact HB.out)⟩

end Go.Proofs.Ytbbbajnnoficbaa.PFnExactCrash
