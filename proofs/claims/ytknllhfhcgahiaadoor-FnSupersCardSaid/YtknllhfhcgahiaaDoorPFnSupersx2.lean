-- by a patched copy of the print (wip/tools/patch_print.py)
import Derived.Test.YtknllhfhcgahiaaDoorPFnSupersx0
import Derived.Test.YtknllhfhcgahiaaDoorPFnSupersx1
namespace Go.Proofs.YtknllhfhcgahiaaDoor.PFnSupers
open List renaming map_toArray → mT_, map_cons → mC_, map_nil → mN_
open Go.RowKit Go.Proofs.YtknllhfhcgahiaaDoorW.PrintWords Go.Proofs.YtknllhfhcgahiaaDoorW.PrintLast Go.Proofs.YtknllhfhcgahiaaDoorW.PrintMore
attribute [local go_sem] max2_int min2_int max_two min_two max_three min_three max_four min_four
open Go.Proofs.YtknllhfhcgahiaaDoorW.PrintWords renaming below_alloc → lA, pw_below_drewN → lN, below_drew1 → lD, below_set → lS, below_step → lT
open Go.Proofs.YtknllhfhcgahiaaDoorW.PrintWords.Aside0 renaming mk → mK
set_option linter.unusedVariables false
set_option maxHeartbeats 8000000
set_option maxRecDepth 1000000
set_option linter.unusedSimpArgs false
mutual
def spec_l1Crc.l0 : Nat → ByteArray → Int → Int → Option (ByteArray)
  | 0, _, _, _ => none
  | k + 1, x0, x3, x4 => if x4 < (x0.size : Int) then (if 0 ≤ x4 then (spec_l1Crc.l1 k x0 (Go.bits .xor .u32 x3 ((bt x0 x4) % 4294967296)) x4 0) else (none)) else (some (strOfNums (([((Go.bits .xor .u32 4294967295 x3) / 16777216) % 256, ((Go.bits .xor .u32 4294967295 x3) / 65536) % 256, ((Go.bits .xor .u32 4294967295 x3) / 256) % 256, (Go.bits .xor .u32 4294967295 x3) % 256] : List Int))))
def spec_l1Crc.l1 : Nat → ByteArray → Int → Int → Int → Option (ByteArray)
  | 0, _, _, _, _ => none
  | k + 1, x0, x3, x4, x5 => if x5 < 8 then (if (Int.tmod x3 2) = 1 then (spec_l1Crc.l1 k x0 (Go.bits .xor .u32 (x3 / 2) 3988292384) x4 (wrap64 (x5 + 1))) else (spec_l1Crc.l1 k x0 (x3 / 2) x4 (wrap64 (x5 + 1)))) else (spec_l1Crc.l0 k x0 x3 (wrap64 (x4 + 1)))
end
def spec_l1Crc.f (k : Nat) (a0 : ByteArray) : Option (ByteArray) := spec_l1Crc.l0 k a0 4294967295 0
theorem spec_l1Crc.mono_l : ∀ k, (∀ y0 y1 y2, LeO (spec_l1Crc.l0 k y0 y1 y2) (spec_l1Crc.l0 (k + 1) y0 y1 y2)) ∧ (∀ y0 y1 y2 y3, LeO (spec_l1Crc.l1 k y0 y1 y2 y3) (spec_l1Crc.l1 (k + 1) y0 y1 y2 y3))
  | 0 => ⟨fun _ _ _ r h => by simp [spec_l1Crc.l0] at h, fun _ _ _ _ r h => by simp [spec_l1Crc.l1] at h⟩
  | k + 1 => by
    obtain ⟨ih0, ih1⟩ := spec_l1Crc.mono_l k
    refine ⟨?_, ?_⟩
    · intro y0 y1 y2
      unfold spec_l1Crc.l0
      repeat' first
      | (with_reducible first | exact ih0 _ _ _ | exact ih1 _ _ _ _ | exact LeO.refl _ | exact LeO.none _ | refine LeO.ite ?_ ?_ | refine LeO.bind ?_ (fun _ => ?_))
      | exact ih0 _ _ _
      | exact ih1 _ _ _ _
      | exact LeO.none _
      | refine LeO.ite ?_ ?_
      | refine LeO.bind ?_ (fun _ => ?_)
    · intro y0 y1 y2 y3
      unfold spec_l1Crc.l1
      repeat' first
      | (with_reducible first | exact ih0 _ _ _ | exact ih1 _ _ _ _ | exact LeO.refl _ | exact LeO.none _ | refine LeO.ite ?_ ?_ | refine LeO.bind ?_ (fun _ => ?_))
      | exact ih0 _ _ _
      | exact ih1 _ _ _ _
      | exact LeO.none _
      | refine LeO.ite ?_ ?_
      | refine LeO.bind ?_ (fun _ => ?_)
theorem spec_l1Crc.mono : ∀ a0 k, LeO (spec_l1Crc.f k a0) (spec_l1Crc.f (k + 1) a0) := by
  intro a0 k
  obtain ⟨ih0, ih1⟩ := spec_l1Crc.mono_l k
  unfold spec_l1Crc.f
  repeat' first
      | (with_reducible first | exact ih0 _ _ _ | exact ih1 _ _ _ _ | exact LeO.refl _ | exact LeO.none _ | refine LeO.ite ?_ ?_ | refine LeO.bind ?_ (fun _ => ?_))
      | exact ih0 _ _ _
      | exact ih1 _ _ _ _
      | exact LeO.none _
      | refine LeO.ite ?_ ?_
      | refine LeO.bind ?_ (fun _ => ?_)
theorem spec_l1Crc.calls (k : Nat) (a0 : ByteArray) (r : ByteArray) (w : World) (h : spec_l1Crc.f k a0 = some r) :
    Calls Tryd.prog 128 #[.string a0] w fun e w' => e = .returned (.string r) ∧ Below w.heap.size w w' := by
 have HB := mK (Below.refl w.heap.size w); have H : (spec_l1Crc.l0 k a0 4294967295 0) = some r := h; clear h; have H' := mK H; clear H; go_enter Tryd.func128, Tryd.ntmps128; go_wp2; go_loopg [3, 4] k (fun kq v3 v4 w' => ∃ (x3_1 : Int) (x4_1 : Int), v3 = .int .u32 x3_1 ∧ v4 = .int .i64 x4_1 ∧ Aside0 (spec_l1Crc.l0 kq a0 x3_1 x4_1 = some r) ∧ Aside0 (kq ≤ k) ∧ Aside0 (Below w.heap.size w w')); (case atStart => exact ⟨(4294967295), (0), (by first | rfl | (simp; done) | (simp [*]; done)), (by first | rfl | (simp; done) | (simp [*]; done)), H', ⟨Nat.le_refl _⟩, ⟨by apply_rules only [HB.out, lA, lN, lD]⟩⟩)
 case round =>
  clear H'; (try clear c1); obtain ⟨x3_1, x4_1, rfl, rfl, HA, HK1, HB⟩ := hrel
  cases gk with
  | zero => exact absurd HA.out (by simp [spec_l1Crc.l0])
  | succ k1 =>
   have H := HA.out; clear HA; simp only [spec_l1Crc.l0] at H; by_cases c2 : x4_1 < (a0.size : Int)
   ·rw [if_pos c2] at H; have c2b0 : decide (x4_1 < (a0.size : Int)) = true := decide_eq_true c2; clear c2; by_cases c3 : 0 ≤ x4_1
    ·rw [if_pos c3] at H; have c3b0 : decide (0 ≤ x4_1) = true := decide_eq_true c3; clear c3; have H' := mK H; clear H; have p4 : 0 ≤ (x4_1 : Int) := of_decide_eq_true (by first | (with_reducible assumption) | assumption); have q4 : x4_1 < (a0.size : Int) := of_decide_eq_true (by first | (with_reducible assumption) | assumption); have hx4 := bt_at a0 x4_1; replace p4 := eq_true p4; replace q4 := eq_true q4; go_wp2; go_loopg [3, 5] k1 (fun kq v3 v5 w' => ∃ (x3_2 : Int) (x5_2 : Int), v3 = .int .u32 x3_2 ∧ v5 = .int .i64 x5_2 ∧ Aside0 (spec_l1Crc.l1 kq a0 x3_2 x4_1 x5_2 = some r) ∧ Aside0 (kq ≤ k1) ∧ Aside0 (Below w.heap.size w w')); (case atStart => exact ⟨(Go.bits .xor .u32 x3_1 ((bt a0 x4_1) % 4294967296)), (0), (by first | rfl | (simp; done) | (simp [*]; done)), (by first | rfl | (simp; done) | (simp [*]; done)), H', ⟨Nat.le_refl _⟩, ⟨by apply_rules only [HB.out, lA, lN, lD]⟩⟩)
     case round =>
      clear H'; (try clear c1); (try clear c2); (try clear c2b0); (try clear p2); (try clear c3); (try clear c3b0); (try clear p4); (try clear q4); (try clear hx4); (try clear p4); (try clear q4); obtain ⟨x3_2, x5_2, rfl, rfl, HA, HK2, HB⟩ := hrel
      cases gk with
      | zero => exact absurd HA.out (by simp [spec_l1Crc.l1])
      | succ k2 =>
       have H := HA.out; clear HA; simp only [spec_l1Crc.l1] at H; by_cases c5 : x5_2 < 8
       ·rw [if_pos c5] at H; have c5b0 : decide (x5_2 < 8) = true := decide_eq_true c5; clear c5; by_cases c6 : (Int.tmod x3_2 2) = 1
        ·rw [if_pos c6] at H; have c6b0 : ((Int.tmod x3_2 2) == 1) = true := beq_iff_eq.mpr c6; have c6b1 : ((Int.tmod x3_2 2) != 1) = false := bne_eq_false_iff_eq.mpr c6; clear c6; have H' := mK H; clear H; go_wp2; go_roundg k2; (case measure => have := HK1.out; have := HK2.out; omega); (case rel => exact ⟨(Go.bits .xor .u32 (x3_2 / 2) 3988292384), (wrap64 (x5_2 + 1)), (by first | rfl | (simp; done) | (simp [*]; done)), (by first | rfl | (simp; done) | (simp [*]; done)), H', ⟨by have := HK1.out; have := HK2.out; omega⟩, ⟨by apply_rules only [HB.out, lA, lN, lD]⟩⟩)
        ·rw [if_neg c6] at H; have c6b0 : ((Int.tmod x3_2 2) == 1) = false := beq_eq_false_iff_ne.mpr c6; have c6b1 : ((Int.tmod x3_2 2) != 1) = true := bne_iff_ne.mpr c6; have H' := mK H; clear H; go_wp2; go_roundg k2; (case measure => have := HK1.out; have := HK2.out; omega); (case rel => exact ⟨(x3_2 / 2), (wrap64 (x5_2 + 1)), (by first | rfl | (simp; done) | (simp [*]; done)), (by first | rfl | (simp; done) | (simp [*]; done)), H', ⟨by have := HK1.out; have := HK2.out; omega⟩, ⟨by apply_rules only [HB.out, lA, lN, lD]⟩⟩)
       ·rw [if_neg c5] at H; have c5b0 : decide (x5_2 < 8) = false := decide_eq_false c5; clear c5; have H' := mK H; clear H; go_wp2; go_roundg k2; (case measure => have := HK1.out; have := HK2.out; omega); (case rel => exact ⟨(x3_2), (wrap64 (x4_1 + 1)), (by first | rfl | (simp; done) | (simp [*]; done)), (by first | rfl | (simp; done) | (simp [*]; done)), H', ⟨by have := HK1.out; have := HK2.out; omega⟩, ⟨by apply_rules only [HB.out, lA, lN, lD]⟩⟩)
    (·rw [if_neg c3] at H; exact absurd H (by simp))
   ·rw [if_neg c2] at H; have c2b0 : decide (x4_1 < (a0.size : Int)) = false := decide_eq_false c2; clear c2; obtain ⟨y118, hy118⟩ : ∃ y_ : List Int, y_ = (([((Go.bits .xor .u32 4294967295 x3_1) / 16777216) % 256, ((Go.bits .xor .u32 4294967295 x3_1) / 65536) % 256, ((Go.bits .xor .u32 4294967295 x3_1) / 256) % 256, (Go.bits .xor .u32 4294967295 x3_1) % 256] : List Int)) := ⟨_, rfl⟩; (replace H : (some (strOfNums y118)) = some r := by first | (rw [hy118]; with_reducible exact H) | (have H2_ := (Option.bind_some _ _).symm.trans H; rw [hy118]; with_reducible exact H2_) | (have H2_ := (Option.bind_some _ _).symm.trans H; with_reducible exact H2_) | with_reducible exact H | (rw [hy118]; exact H) | exact H); have Ny118 := mK hy118; clear hy118; obtain rfl := Option.some.inj H; go_wp2_with (first | ((with_reducible refine gate_dst (N := 43) rfl ?_); refine Kd.R_lit (Kd.int .u8) _ 5 ?hg (N := 43) ?hd (xs := ([((Go.bits .xor .u32 4294967295 x3_1) / 16777216) % 256, ((Go.bits .xor .u32 4294967295 x3_1) / 65536) % 256, ((Go.bits .xor .u32 4294967295 x3_1) / 256) % 256, (Go.bits .xor .u32 4294967295 x3_1) % 256] : List Int)) (inner := [.int .u8 (((Go.bits .xor .u32 4294967295 x3_1) / 16777216) % 256), .int .u8 (((Go.bits .xor .u32 4294967295 x3_1) / 65536) % 256), .int .u8 (((Go.bits .xor .u32 4294967295 x3_1) / 256) % 256), .int .u8 ((Go.bits .xor .u32 4294967295 x3_1) % 256)]) (ok := fun _ => True) (okp := fun _ => True) ?hr ?hp (fun _ hk => hk) trivial (Below.refl _ _) (Nat.le_refl _) (by simp) ?_; (case hd => rfl); (case hg => rfl); (case hr => first | (go_simp; done) | (go_simp; rfl)); (case hp => exact (Reps.one (show Kd.M (Kd.int .u8) _ _ _ (((Go.bits .xor .u32 4294967295 x3_1) / 16777216) % 256) [.int .u8 (((Go.bits .xor .u32 4294967295 x3_1) / 16777216) % 256)] from rfl) (Reps.one (show Kd.M (Kd.int .u8) _ _ _ (((Go.bits .xor .u32 4294967295 x3_1) / 65536) % 256) [.int .u8 (((Go.bits .xor .u32 4294967295 x3_1) / 65536) % 256)] from rfl) (Reps.one (show Kd.M (Kd.int .u8) _ _ _ (((Go.bits .xor .u32 4294967295 x3_1) / 256) % 256) [.int .u8 (((Go.bits .xor .u32 4294967295 x3_1) / 256) % 256)] from rfl) (Reps.one (show Kd.M (Kd.int .u8) _ _ _ ((Go.bits .xor .u32 4294967295 x3_1) % 256) [.int .u8 ((Go.bits .xor .u32 4294967295 x3_1) % 256)] from rfl) (Reps.none _ _)))))); intro v119 w7 ho8 hb hg_ hnew_; clear hg_ hnew_; (first | rw [← Ny118.out] at ho8 | (simp only [Int.reduceToNat] at ho8; rw [← Ny118.out] at ho8)); have n0_ := mK (Kd.R_lower ho8 (below_size (by apply_rules only [HB.out, lA, lN, lD]))); have n1_ := mK (lT (by apply_rules only [HB.out, lA, lN, lD]) hb); clear HB; have HO120 := n0_; have HB := n1_; clear n0_ n1_; clear hb ho8; have hcv9 := own_string (P := Tryd.prog) Tryd.underlying29 Tryd.underlying5 Tryd.underlying9 (Kd.own_of_R HO120.out))); go_ret; exact ⟨by first | rfl | (simp [errW_none, errW_some] <;> rfl) | (simp [*, errW_none, errW_some] <;> rfl), by apply_rules only [HB.out, lA, lN, lD]⟩
def spec_Sealed.f (k : Nat) (a0 : ByteArray) : Option (ByteArray) := if (a0.size : Int) > 60 then (some (⟨#[]⟩ : ByteArray)) else ((spec_l1Zeros.f (wrap64 (60 - (a0.size : Int)))).bind fun t121 => (if a0.size + t121.size ≤ 9223372036854775807 then ((spec_l1Crc.f k (a0 ++ t121)).bind fun t122 => (if (a0 ++ t121).size + t122.size ≤ 9223372036854775807 then (some ((a0 ++ t121) ++ t122)) else (none))) else (none)))
theorem spec_Sealed.mono : ∀ a0 k, LeO (spec_Sealed.f k a0) (spec_Sealed.f (k + 1) a0) := by
  intro a0 k
  unfold spec_Sealed.f
  repeat' first
      | (with_reducible first | exact spec_l1Crc.mono _ _ | exact LeO.refl _ | exact LeO.none _ | refine LeO.ite ?_ ?_ | refine LeO.bind ?_ (fun _ => ?_))
      | exact spec_l1Crc.mono _ _
      | exact LeO.none _
      | refine LeO.ite ?_ ?_
      | refine LeO.bind ?_ (fun _ => ?_)
theorem spec_Sealed.calls (k : Nat) (a0 : ByteArray) (r : ByteArray) (w : World) (h : spec_Sealed.f k a0 = some r) :
    Calls Tryd.prog 115 #[.string a0] w fun e w' => e = .returned (.string r) ∧ Below w.heap.size w w' := by
 have HB := mK (Below.refl w.heap.size w); have H : (if (a0.size : Int) > 60 then (some (⟨#[]⟩ : ByteArray)) else ((spec_l1Zeros.f (wrap64 (60 - (a0.size : Int)))).bind fun t121 => (if a0.size + t121.size ≤ 9223372036854775807 then ((spec_l1Crc.f k (a0 ++ t121)).bind fun t122 => (if (a0 ++ t121).size + t122.size ≤ 9223372036854775807 then (some ((a0 ++ t121) ++ t122)) else (none))) else (none)))) = some r := h; clear h; by_cases c2 : (a0.size : Int) > 60
 ·rw [if_pos c2] at H; have c2b0 : decide (60 < (a0.size : Int)) = true := decide_eq_true c2; have c2b1 : decide (60 < a0.size) = true := decide_eq_true (by omega); clear c2; obtain rfl := Option.some.inj H; go_enter Tryd.func115, Tryd.ntmps115; go_wp2; go_ret; exact ⟨by first | rfl | (simp [errW_none, errW_some] <;> rfl) | (simp [*, errW_none, errW_some] <;> rfl), by apply_rules only [HB.out, lA, lN, lD]⟩
 ·rw [if_neg c2] at H; have c2b0 : decide (60 < (a0.size : Int)) = false := decide_eq_false c2; have c2b1 : decide (60 < a0.size) = false := decide_eq_false (by omega); clear c2; replace H := Option.bind_eq_some_iff.mp H; obtain ⟨t121, A30, H⟩ := H; (try dsimp only at H); have A3 := mK A30; clear A30; by_cases c4 : a0.size + t121.size ≤ 9223372036854775807
  ·rw [if_pos c4] at H; have c4b0 := eq_true c4; have c4b1 : decide (a0.size + t121.size ≤ 9223372036854775807) = true := decide_eq_true c4; (try have c4b2 : (9223372036854775807 < a0.size + t121.size) = False := eq_false (Nat.not_lt.2 c4)); replace H := Option.bind_eq_some_iff.mp H; obtain ⟨t122, A50, H⟩ := H; (try dsimp only at H); have A5 := mK A50; clear A50; by_cases c6 : (a0 ++ t121).size + t122.size ≤ 9223372036854775807
   ·rw [if_pos c6] at H; have c6b0 := eq_true c6; have c6b1 : decide ((a0 ++ t121).size + t122.size ≤ 9223372036854775807) = true := decide_eq_true c6; (try have c6b2 : (9223372036854775807 < (a0 ++ t121).size + t122.size) = False := eq_false (Nat.not_lt.2 c6)); (try (have c6b5 := c6b0; simp only [ByteArray.size_append] at c6b5)); (try (have c6b6 := c6b1; simp only [ByteArray.size_append] at c6b6)); (try (have c6b7 := c6b2; simp only [ByteArray.size_append] at c6b7)); obtain rfl := Option.some.inj H; go_enter Tryd.func115, Tryd.ntmps115; go_wp2_with (first | ((with_reducible refine gate_callee (f := 91) rfl ?_); refine goesL_ (some 11) rfl rfl Tryd.func91 (by kernel_rfl) rfl #[.int .i64 (wrap64 (60 - (a0.size : Int)))] rfl (by (try simp only [List.map_toArray, List.map_cons, List.map_nil]); first | done | rfl | (simp only [List.length_drop, List.length_take]; rfl) | ((try simp only [decide_eq_false_iff_not, decide_eq_true_eq, eq_iff_iff, iff_true, iff_false, Int.not_lt, Int.not_le, Nat.not_lt, Nat.not_le, ByteArray.size_append, ByteArray.size_extract] at *); (rw [show wrap64 (60 - (a0.size : Int)) = 60 - (a0.size : Int) from by unfold Go.RowKit.wrap64; omega]); rfl)) ?_; (with_reducible refine (spec_l1Zeros.calls (wrap64 (60 - (a0.size : Int))) t121 _ A3.out).mono ?_); rintro e w7 ⟨rfl, hb⟩; refine ⟨_, rfl, ?_⟩; have n0_ := mK (lT (by apply_rules only [HB.out, lA, lN, lD]) hb); clear HB; have HB := n0_; clear n0_) | ((with_reducible refine gate_callee (f := 128) rfl ?_); refine goesL_ (some 15) rfl rfl Tryd.func128 (by kernel_rfl) rfl #[.string (a0 ++ t121)] rfl (by (try simp only [mT_, mC_, mN_]) <;> rfl) ?_; (with_reducible refine (spec_l1Crc.calls k (a0 ++ t121) t122 _ A5.out).mono ?_); rintro e w8 ⟨rfl, hb⟩; refine ⟨_, rfl, ?_⟩; have n0_ := mK (lT (by apply_rules only [HB.out, lA, lN, lD]) hb); clear HB; have HB := n0_; clear n0_)); go_ret; exact ⟨by first | rfl | (simp [errW_none, errW_some] <;> rfl) | (simp [*, errW_none, errW_some] <;> rfl), by apply_rules only [HB.out, lA, lN, lD]⟩
   (·rw [if_neg c6] at H; exact absurd H (by simp))
  (·rw [if_neg c4] at H; exact absurd H (by simp))
def spec_WordBytes.l0 : Nat → Int → List Int → Int → Option (ByteArray)
  | 0, _, _, _ => none
  | k + 1, x0, x3, x4 => if x4 < 8 then (if 0 ≤ (IntKind.u64.wrap (wrap64 (56 - (wrap64 (8 * x4))))) then (if 0 ≤ x4 then (if x4 < (x3.length : Int) then (spec_WordBytes.l0 k x0 (x3.set (x4 : Int).toNat ((shr .u64 (IntKind.u64.wrap (x0)) (IntKind.u64.wrap (wrap64 (56 - (wrap64 (8 * x4)))))) % 256)) (wrap64 (x4 + 1))) else (none)) else (none)) else (none)) else (some (strOfNums x3))
def spec_WordBytes.f (k : Nat) (a0 : Int) : Option (ByteArray) := if 8 ≤ 281474976710656 then (spec_WordBytes.l0 k a0 (List.replicate 8 0) 0) else (none)
theorem spec_WordBytes.mono_l : ∀ k, (∀ y0 y1 y2, LeO (spec_WordBytes.l0 k y0 y1 y2) (spec_WordBytes.l0 (k + 1) y0 y1 y2))
  | 0 => fun _ _ _ r h => by simp [spec_WordBytes.l0] at h
  | k + 1 => by
    have ih0 := spec_WordBytes.mono_l k
    · intro y0 y1 y2
      unfold spec_WordBytes.l0
      repeat' first
      | (with_reducible first | exact ih0 _ _ _ | exact LeO.refl _ | exact LeO.none _ | refine LeO.ite ?_ ?_ | refine LeO.bind ?_ (fun _ => ?_))
      | exact ih0 _ _ _
      | exact LeO.none _
      | refine LeO.ite ?_ ?_
      | refine LeO.bind ?_ (fun _ => ?_)
theorem spec_WordBytes.mono : ∀ a0 k, LeO (spec_WordBytes.f k a0) (spec_WordBytes.f (k + 1) a0) := by
  intro a0 k
  have ih0 := spec_WordBytes.mono_l k
  unfold spec_WordBytes.f
  repeat' first
      | (with_reducible first | exact ih0 _ _ _ | exact LeO.refl _ | exact LeO.none _ | refine LeO.ite ?_ ?_ | refine LeO.bind ?_ (fun _ => ?_))
      | exact ih0 _ _ _
      | exact LeO.none _
      | refine LeO.ite ?_ ?_
      | refine LeO.bind ?_ (fun _ => ?_)
theorem spec_WordBytes.calls (k : Nat) (a0 : Int) (r : ByteArray) (w : World) (h : spec_WordBytes.f k a0 = some r) :
    Calls Tryd.prog 90 #[.int .i64 a0] w fun e w' => e = .returned (.string r) ∧ Below w.heap.size w w' := by
 have HB := mK (Below.refl w.heap.size w); have H : (if 8 ≤ 281474976710656 then (spec_WordBytes.l0 k a0 (List.replicate 8 0) 0) else (none)) = some r := h; clear h; by_cases c2 : 8 ≤ 281474976710656
 ·rw [if_pos c2] at H; have c2b0 := eq_true c2; have c2b1 : decide (8 ≤ 281474976710656) = true := decide_eq_true c2; clear c2; obtain ⟨y123, hy123⟩ : ∃ y_ : List Int, y_ = (List.replicate 8 0) := ⟨_, rfl⟩; (replace H : (spec_WordBytes.l0 k a0 y123 0) = some r := by first | (rw [hy123]; with_reducible exact H) | (have H2_ := (Option.bind_some _ _).symm.trans H; rw [hy123]; with_reducible exact H2_) | (have H2_ := (Option.bind_some _ _).symm.trans H; with_reducible exact H2_) | with_reducible exact H | (rw [hy123]; exact H) | exact H); have Ny123 := mK hy123; clear hy123; have H' := mK H; clear H; go_enter Tryd.func90, Tryd.ntmps90; go_wp2_with (first | ((with_reducible refine gate_dst (N := 5) rfl ?_); refine Kd.R_make (Kd.int .u8) _ 5 rfl (N := 5) rfl 29 _ _ rfl 8 rfl rfl Tryd.underlying29 (.int .u8 0) 1 info5 rfl (by decide) (by omega) 0 (ok := fun _ => True) (okp := fun _ => True) rfl (fun _ hk => hk) trivial (by omega) (by omega) (Below.refl _ _) (Nat.le_refl _) ?_; intro v124 w3 ho4 hb hg_ hnew_; clear hg_ hnew_; (first | rw [← Ny123.out] at ho4 | (simp only [Int.reduceToNat] at ho4; rw [← Ny123.out] at ho4)); have n0_ := mK (Kd.R_lower ho4 (below_size (by apply_rules only [HB.out, lA, lN, lD]))); have n1_ := mK (lT (by apply_rules only [HB.out, lA, lN, lD]) hb); clear HB; have HO125 := n0_; have HB := n1_; clear n0_ n1_; clear hb ho4)); go_loopg [4] k (fun kq v4 w' => ∃ (x3_1 : List Int) (x4_1 : Int), v4 = .int .i64 x4_1 ∧ Aside0 (spec_WordBytes.l0 kq a0 x3_1 x4_1 = some r) ∧ Aside0 (kq ≤ k) ∧ Aside0 (Kd.R (Kd.int .u8) 5 w' w.heap.size (fun _ => True) v124 x3_1) ∧ Aside0 (Below w.heap.size w w')); (case atStart => exact ⟨(y123), (0), (by first | rfl | (simp; done) | (simp [*]; done)), H', ⟨Nat.le_refl _⟩, ⟨by (with_reducible repeat (first | apply Kd.R_alloc | apply Kd.R_drewN | apply Kd.R_drew)); exact HO125.out⟩, ⟨by apply_rules only [HB.out, lA, lN, lD]⟩⟩)
  case round =>
   clear H'; (try clear c2); (try clear c2b0); (try clear c2b1); (try clear p2); obtain ⟨x3_1, x4_1, rfl, HA, HK1, HO_3, HB⟩ := hrel
   cases gk with
   | zero => exact absurd HA.out (by simp [spec_WordBytes.l0])
   | succ k1 =>
    have H := HA.out; clear HA; simp only [spec_WordBytes.l0] at H; by_cases c5 : x4_1 < 8
    ·rw [if_pos c5] at H; have c5b0 : decide (x4_1 < 8) = true := decide_eq_true c5; clear c5; obtain ⟨ji6, hji6⟩ : ∃ j_ : Int, (IntKind.u64.wrap (wrap64 (56 - (wrap64 (8 * x4_1))))) = j_ := ⟨_, rfl⟩; (replace H : (if 0 ≤ (ji6) then (if 0 ≤ x4_1 then (if x4_1 < (x3_1.length : Int) then (spec_WordBytes.l0 k1 a0 (x3_1.set (x4_1 : Int).toNat ((shr .u64 (IntKind.u64.wrap (a0)) (ji6)) % 256)) (wrap64 (x4_1 + 1))) else (none)) else (none)) else (none)) = some r := by first | (rw [hji6] at H; exact H) | (simp only [hji6] at H ⊢; exact H)); by_cases c7 : 0 ≤ (ji6)
     ·rw [if_pos c7] at H; have c7b0 := eq_true c7; have c7b1 : decide (0 ≤ (ji6)) = true := decide_eq_true c7; clear c7; obtain ⟨ji8, hji8⟩ : ∃ j_ : Int, (shr .u64 (IntKind.u64.wrap (a0)) (ji6)) = j_ := ⟨_, rfl⟩; (replace H : (if 0 ≤ x4_1 then (if x4_1 < (x3_1.length : Int) then (spec_WordBytes.l0 k1 a0 (x3_1.set (x4_1 : Int).toNat ((ji8) % 256)) (wrap64 (x4_1 + 1))) else (none)) else (none)) = some r := by first | (rw [hji8] at H; exact H) | (simp only [hji8] at H ⊢; exact H)); have hji8_ : ((IntKind.u64.wrap (a0)) / 2 ^ min (ji6).toNat 64) = ji8 := hji8; have hji8z : (ji6) ≤ 64 → ((IntKind.u64.wrap (a0)) / 2 ^ (ji6).toNat) = ji8 := shr_small hji8; by_cases c9 : 0 ≤ x4_1
      ·rw [if_pos c9] at H; have c9b0 : decide (0 ≤ x4_1) = true := decide_eq_true c9; clear c9; by_cases c10 : x4_1 < (x3_1.length : Int)
       ·rw [if_pos c10] at H; have c10b0 : decide (x4_1 < (x3_1.length : Int)) = true := decide_eq_true c10; clear c10; obtain ⟨y126, hy126⟩ : ∃ y_ : List Int, y_ = (x3_1.set (x4_1 : Int).toNat ((ji8) % 256)) := ⟨_, rfl⟩; (replace H : (spec_WordBytes.l0 k1 a0 y126 (wrap64 (x4_1 + 1))) = some r := by first | (rw [hy126]; with_reducible exact H) | (have H2_ := (Option.bind_some _ _).symm.trans H; rw [hy126]; with_reducible exact H2_) | (have H2_ := (Option.bind_some _ _).symm.trans H; with_reducible exact H2_) | with_reducible exact H | (rw [hy126]; exact H) | exact H); have Ny126 := mK hy126; clear hy126; have H' := mK H; clear H; have p11 : 0 ≤ (x4_1 : Int) := of_decide_eq_true (by first | (with_reducible assumption) | assumption); have q11 : (x4_1 : Int) < ((x3_1.length : Int) : Int) := of_decide_eq_true (by first | (with_reducible assumption) | assumption); obtain ⟨go11, co11, eo11, gb11, gl11, cl11, HG11⟩ := Kd.R_form HO_3.out (by omega); (first | cases eo11 | (injection eo11 with ea_ en_ ec_; (first | subst ea_ | (injection ea_ with ea_; subst ea_)); subst ec_; clear en_)); have GB11 := mK gb11; have GG11 := mK HG11; clear gb11 gl11 HG11; obtain ⟨hx11_0, hf11_0⟩ := Kd.R_celln 0 HO_3.out (x4_1 : Int) p11 q11; replace p11 := eq_true p11; replace q11 := eq_true q11; have HP12 := Kd.R_putg HO_3.out (x4_1 : Int) ((ji8) % 256); go_wp2_with (first | ((with_reducible refine gate_store (t := 5) (p := 20) rfl ?_); refine store_event (t := 5) (p := 20) (v := ?vo_w13) (w1 := (wr.setCell ⟨go11, (x4_1 : Int).toNat, none⟩ (.int .u8 ((ji8) % 256)))) ?hg ?ho ?hn ?hr ?_; (case ho => rfl); (case hg => rfl); (case hn => rfl); (case hr => first | (go_simp; done) | (go_simp; rfl)); intro w13 hw; have hg : wr.grownBy w13 (some go11) := (by rw [hw]; exact HP12.2); have hp_ : Kd.R (Kd.int .u8) 5 w13 w.heap.size (fun _ => True) (.slice (some ⟨go11, 0, none⟩) x3_1.length co11) y126 := (by rw [hw, Ny126.out]; exact HP12.1); clear HP12; have n0_ := mK (hp_); have n1_ := mK ((by rw [hw]; exact lS (HB.out) GB11.out : Below w.heap.size w w13)); clear HO_3; clear HB; have HO_3 := n0_; have HB := n1_; clear n0_ n1_; clear hg hw hp_)); go_roundg k1; (case measure => have := HK1.out; omega); (case rel => exact ⟨(y126), (wrap64 (x4_1 + 1)), (by first | rfl | (simp; done) | (simp [*]; done)), H', ⟨by have := HK1.out; omega⟩, ⟨by (with_reducible repeat (first | apply Kd.R_alloc | apply Kd.R_drewN | apply Kd.R_drew)); exact HO_3.out⟩, ⟨by apply_rules only [HB.out, lA, lN, lD]⟩⟩)
       (·rw [if_neg c10] at H; exact absurd H (by simp))
      (·rw [if_neg c9] at H; exact absurd H (by simp))
     (·rw [if_neg c7] at H; exact absurd H (by simp))
    ·rw [if_neg c5] at H; have c5b0 : decide (x4_1 < 8) = false := decide_eq_false c5; clear c5; obtain rfl := Option.some.inj H; have hcv14 := own_string (P := Tryd.prog) Tryd.underlying29 Tryd.underlying5 Tryd.underlying9 (Kd.own_of_R HO_3.out); go_wp2; go_ret; exact ⟨by first | rfl | (simp [errW_none, errW_some] <;> rfl) | (simp [*, errW_none, errW_some] <;> rfl), by apply_rules only [HB.out, lA, lN, lD]⟩
 (·rw [if_neg c2] at H; exact absurd H (by simp))
def spec_ShortBytes.f (k : Nat) (a0 : Int) : Option (ByteArray) := (spec_l1In.f a0 0 65535).bind fun t127 => (if t127 = true then ((spec_WordBytes.f k a0).bind fun t128 => (if 6 ≤ (t128.size : Int) then (some (t128.extract 6 t128.size)) else (none))) else (some (⟨#[]⟩ : ByteArray)))
theorem spec_ShortBytes.mono : ∀ a0 k, LeO (spec_ShortBytes.f k a0) (spec_ShortBytes.f (k + 1) a0) := by
  intro a0 k
  unfold spec_ShortBytes.f
  repeat' first
      | (with_reducible first | exact spec_WordBytes.mono _ _ | exact LeO.refl _ | exact LeO.none _ | refine LeO.ite ?_ ?_ | refine LeO.bind ?_ (fun _ => ?_))
      | exact spec_WordBytes.mono _ _
      | exact LeO.none _
      | refine LeO.ite ?_ ?_
      | refine LeO.bind ?_ (fun _ => ?_)
theorem spec_ShortBytes.calls (k : Nat) (a0 : Int) (r : ByteArray) (w : World) (h : spec_ShortBytes.f k a0 = some r) :
    Calls Tryd.prog 122 #[.int .i64 a0] w fun e w' => e = .returned (.string r) ∧ Below w.heap.size w w' := by
 have HB := mK (Below.refl w.heap.size w); have H : ((spec_l1In.f a0 0 65535).bind fun t127 => (if t127 = true then ((spec_WordBytes.f k a0).bind fun t128 => (if 6 ≤ (t128.size : Int) then (some (t128.extract 6 t128.size)) else (none))) else (some (⟨#[]⟩ : ByteArray)))) = some r := h; clear h; replace H := Option.bind_eq_some_iff.mp H; obtain ⟨t127, A20, H⟩ := H; (try dsimp only at H); have A2 := mK A20; clear A20; by_cases c3 : t127 = true
 ·subst c3; (have H1 : ((spec_WordBytes.f k a0).bind fun t128 => (if 6 ≤ (t128.size : Int) then (some (t128.extract 6 t128.size)) else (none))) = some r := by rw [if_pos rfl] at H; exact H); clear H; have H := H1; clear H1; replace H := Option.bind_eq_some_iff.mp H; obtain ⟨t128, A40, H⟩ := H; (try dsimp only at H); have A4 := mK A40; clear A40; by_cases c5 : 6 ≤ (t128.size : Int)
  ·rw [if_pos c5] at H; have c5b0 := eq_true c5; have c5b1 : decide (6 ≤ (t128.size : Int)) = true := decide_eq_true c5; clear c5; obtain rfl := Option.some.inj H; go_enter Tryd.func122, Tryd.ntmps122; go_wp2_with (first | ((with_reducible refine gate_callee (f := 69) rfl ?_); refine goesL_ (some 4) rfl rfl Tryd.func69 (by kernel_rfl) rfl #[.int .i64 a0, .int .i64 0, .int .i64 65535] rfl (by (try simp only [mT_, mC_, mN_]) <;> rfl) ?_; (with_reducible refine (spec_l1In.calls a0 0 65535 true _ A2.out).mono ?_); rintro e w' ⟨rfl, ⟨nd, rfl⟩⟩; refine ⟨_, rfl, ?_⟩) | ((with_reducible refine gate_callee (f := 90) rfl ?_); refine goesL_ (some 7) rfl rfl Tryd.func90 (by kernel_rfl) rfl #[.int .i64 a0] rfl (by (try simp only [mT_, mC_, mN_]) <;> rfl) ?_; (with_reducible refine (spec_WordBytes.calls k a0 t128 _ A4.out).mono ?_); rintro e w6 ⟨rfl, hb⟩; refine ⟨_, rfl, ?_⟩; have n0_ := mK (lT (by apply_rules only [HB.out, lA, lN, lD]) hb); clear HB; have HB := n0_; clear n0_)); go_ret; exact ⟨by first | rfl | (simp [errW_none, errW_some] <;> rfl) | (simp [*, errW_none, errW_some] <;> rfl), by apply_rules only [HB.out, lA, lN, lD]⟩
  (·rw [if_neg c5] at H; exact absurd H (by simp))
 ·replace c3 := Bool.eq_false_iff.mpr c3; subst c3; (have H1 : (some (⟨#[]⟩ : ByteArray)) = some r := by rw [if_neg (show ¬ (false = true) by decide)] at H; exact H); clear H; have H := H1; clear H1; obtain rfl := Option.some.inj H; go_enter Tryd.func122, Tryd.ntmps122; go_wp2_with (first | ((with_reducible refine gate_callee (f := 69) rfl ?_); refine goesL_ (some 4) rfl rfl Tryd.func69 (by kernel_rfl) rfl #[.int .i64 a0, .int .i64 0, .int .i64 65535] rfl (by (try simp only [mT_, mC_, mN_]) <;> rfl) ?_; (with_reducible refine (spec_l1In.calls a0 0 65535 false _ A2.out).mono ?_); rintro e w' ⟨rfl, ⟨nd, rfl⟩⟩; refine ⟨_, rfl, ?_⟩)); go_ret; exact ⟨by first | rfl | (simp [errW_none, errW_some] <;> rfl) | (simp [*, errW_none, errW_some] <;> rfl), by apply_rules only [HB.out, lA, lN, lD]⟩
end Go.Proofs.YtknllhfhcgahiaaDoor.PFnSupers
