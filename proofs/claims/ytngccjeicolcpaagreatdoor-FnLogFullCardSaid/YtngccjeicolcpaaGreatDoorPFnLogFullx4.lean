-- by a patched copy of the print (wip/tools/patch_print.py)
import Derived.Test.YtngccjeicolcpaaGreatDoorPFnLogFullx0
import Derived.Test.YtngccjeicolcpaaGreatDoorPFnLogFullx1
import Derived.Test.YtngccjeicolcpaaGreatDoorPFnLogFullx2
import Derived.Test.YtngccjeicolcpaaGreatDoorPFnLogFullx3
namespace Go.Proofs.YtngccjeicolcpaaGreatDoor.PFnLogFull
open List renaming map_toArray → mT_, map_cons → mC_, map_nil → mN_
open Go.RowKit Go.Proofs.YtngccjeicolcpaaGreatDoorW.PrintWords Go.Proofs.YtngccjeicolcpaaGreatDoorW.PrintLast Go.Proofs.YtngccjeicolcpaaGreatDoorW.PrintMore
attribute [local go_sem] max2_int min2_int max_two min_two max_three min_three max_four min_four
open Go.Proofs.YtngccjeicolcpaaGreatDoorW.PrintWords renaming blk_drewN → bN, blk_drew → bD, blk_alloc → bA, below_alloc → lA, pw_below_drewN → lN, below_drew1 → lD, below_set → lS, below_step → lT, blk_below → bB, blk_cell → bC, blk_frozen → bF
open Go.Proofs.YtngccjeicolcpaaGreatDoorW.PrintWords.Aside0 renaming mk → mK
open Go.Proofs.YtngccjeicolcpaaGreatDoorW.PrintWords.Kd renaming R_drewN → rN, C_drew → cD, R_below → rB, R_mono → rM, C_below → cB
open List renaming map_cons → mC_, map_toArray → mT_, map_nil → mN_
set_option linter.unusedVariables false
set_option maxHeartbeats 8000000
set_option maxRecDepth 1000000
set_option linter.unusedSimpArgs false
theorem impl_LogOf.closure (x : S83) (g : Nat) (h : Int) (w : World) (hc : w.cell? ⟨g, 2, none⟩ = some (.int .i64 h)) : Calls Tryz.prog 65 #[.agg #[.int .i64 x.f0, .int .i64 x.f1, .int .i64 x.f2, .string x.f3], .pointer (some ⟨g, 0, none⟩)] w fun e w' => e = .returned (.bool (x.f2 == h)) ∧ Below w.heap.size w w' := by
  have hu83 := Tryz.underlying83
  have HB := mK (Below.refl w.heap.size w)
  go_enter Tryz.func65, Tryz.ntmps65
  go_wp2_with (first | ((with_reducible refine gate_dst (N := 2) rfl ?_); refine box_event ?hg (N := 2) ?hd (cs := #[.int .i64 x.f0, .int .i64 x.f1, .int .i64 x.f2, .string x.f3]) (t := 83) ?hr ?_; (case hd => rfl); (case hg => rfl); (case hr => first | (go_simp; done) | (go_simp; rfl)); intro gd hg w4 hbox hb; have n0_ := mK (lT HB.out hb); clear HB; have HB := n0_; replace hc := (hb.cell (World.block_lt_of_cell? w _ hc)).trans hc; have hcz2 : w4.cell? ⟨gd, 2, none⟩ = some (.int .i64 x.f2) := (bC hbox 2).trans rfl; clear n0_ hb hbox hg))
  go_ret
  exact ⟨rfl, HB.out⟩
def impl_LogOf.idx (l : List S83) (h : Int) : Int := match l.findIdx? (fun x => x.f2 == h) with | some i => (i : Int) | none => -1
theorem impl_LogOf.rd_at (l : List S83) (t : Nat) (ht : t < l.length) : rd_T83 l (t : Int) = l[t] := by simp [rd_T83, List.getD, ht]
theorem impl_LogOf.idx_at (l : List S83) (h : Int) (i : Nat) (hi : i < l.length) (h1 : ∀ t : Nat, t < i → ((rd_T83 l (t : Int)).f2 == h) = false) (h2 : ((rd_T83 l (i : Int)).f2 == h) = true) : impl_LogOf.idx l h = i := by
  have e : l.findIdx? (fun x => x.f2 == h) = some i := by
    rw [List.findIdx?_eq_some_iff_getElem]
    refine ⟨hi, by rw [← impl_LogOf.rd_at l i hi, h2], fun j hj => ?_⟩
    have := h1 j hj
    rw [impl_LogOf.rd_at l j (by omega)] at this
    simpa using this
  unfold impl_LogOf.idx
  rw [e]
theorem impl_LogOf.idx_none (l : List S83) (h : Int) (h1 : ∀ t : Nat, t < l.length → ((rd_T83 l (t : Int)).f2 == h) = false) : impl_LogOf.idx l h = -1 := by
  have e : l.findIdx? (fun x => x.f2 == h) = none := by
    rw [List.findIdx?_eq_none_iff]
    intro x hx
    obtain ⟨t, ht, rfl⟩ := List.getElem_of_mem hx
    have := h1 t ht
    rw [impl_LogOf.rd_at l t ht] at this
    exact this
  unfold impl_LogOf.idx
  rw [e]
theorem impl_LogOf.idx_any (l : List S83) (h : Int) : decide (impl_LogOf.idx l h ≥ 0) = l.any (fun x => x.f2 == h) := by
  unfold impl_LogOf.idx
  cases e : l.findIdx? (fun x => x.f2 == h) with
  | none =>
    rw [List.findIdx?_eq_none_iff] at e
    have : l.any (fun x => x.f2 == h) = false := by rw [List.any_eq_false]; intro x hx; rw [e x hx]; decide
    rw [this]; rfl
  | some i =>
    rw [List.findIdx?_eq_some_iff_getElem] at e
    obtain ⟨hi, h2, _⟩ := e
    have : l.any (fun x => x.f2 == h) = true := by
      rw [List.any_eq_true]; exact ⟨l[i], List.getElem_mem hi, h2⟩
    rw [this]; simp
theorem impl_LogOf.index (F : Nat) (A : Option Addr) (c : Nat) (l : List S83) (g o : Nat) (h : Int) (w : World) (eg : ∀ args w, (callFunc F args).run Tryz.prog w = .ok (.enter F args) w) (cl : ∀ (x : S83) (w : World), w.cell? ⟨g, o, none⟩ = some (.int .i64 h) → Calls Tryz.prog F #[.agg #[.int .i64 x.f0, .int .i64 x.f1, .int .i64 x.f2, .string x.f3], .pointer (some ⟨g, 0, none⟩)] w fun e w' => e = .returned (.bool (x.f2 == h)) ∧ Below w.heap.size w w') (hr : Kd.C k83 w A l.length l) (hc : l.length ≤ c) (hsz : l.length ≤ 1000) (hcell : w.cell? ⟨g, o, none⟩ = some (.int .i64 h)) :
    Calls Tryz.prog 112 #[.slice A l.length c, .func (.func F) #[] #[.pointer (some ⟨g, 0, none⟩)]] w fun e w' => e = .returned (.int .i64 (impl_LogOf.idx l h)) ∧ Below w.heap.size w w' := by
  have hu83 := Tryz.underlying83
  have HB := mK (Below.refl w.heap.size w)
  have HR := mK hr
  have HC := mK hcell
  clear hr hcell
  generalize hidx : impl_LogOf.idx l h = cnt
  have CN := mK hidx
  clear hidx
  go_enter Tryz.func112, Tryz.ntmps112
  go_wp2
  go_loopg [8] l.length (fun kx s8 wr => ∃ i : Nat, s8 = .int .i64 i ∧ i ≤ l.length ∧ l.length - i ≤ kx ∧ Aside0 (Below w.heap.size w wr) ∧ Aside0 (∀ t : Nat, t < i → ((rd_T83 l (t : Int)).f2 == h) = false))
  case atStart => exact ⟨0, rfl, Nat.zero_le _, by omega, HB, ⟨fun t ht => absurd ht (Nat.not_lt_zero _)⟩⟩
  case round =>
    clear HB
    obtain ⟨i, rfl, hin, hg, HB, I⟩ := hrel
    by_cases hlt : i < l.length
    · obtain ⟨ad, ea, hx0, hx1, hx2, hx3⟩ := at_T83 HR.out (i : Int) (by omega) (by omega)
      cases ea
      replace hx0 := (HB.out.cell (World.block_lt_of_cell? w _ hx0)).trans hx0
      replace hx1 := (HB.out.cell (World.block_lt_of_cell? w _ hx1)).trans hx1
      replace hx2 := (HB.out.cell (World.block_lt_of_cell? w _ hx2)).trans hx2
      replace hx3 := (HB.out.cell (World.block_lt_of_cell? w _ hx3)).trans hx3
      simp only [Int.toNat_natCast] at hx0 hx1 hx2 hx3
      generalize hy : rd_T83 l (i : Int) = x at hx0 hx1 hx2 hx3
      have Y := mK hy
      clear hy
      have HCr := mK ((HB.out.cell (World.block_lt_of_cell? w _ HC.out)).trans HC.out)
      have N1 := mK (cl x wr HCr.out)
      by_cases hyx : (x.f2 == h) = true
      · rw [hyx] at N1
        have hyx' := mK hyx
        clear hyx
        obtain rfl : cnt = (i : Int) := by rw [← CN.out]; exact impl_LogOf.idx_at l h i hlt I.out (by rw [Y.out]; exact hyx'.out)
        go_wp2_with (go_at_fn F; (refine (N1.out).mono ?_); rintro e w2 ⟨rfl, hb⟩; replace HB := mK (lT HB.out hb); clear hb)
        go_ret
        exact ⟨rfl, HB.out⟩
      · have hyx' := mK (Bool.eq_false_iff.2 hyx)
        rw [Bool.eq_false_iff.2 hyx] at N1
        clear hyx
        go_wp2_with (go_at_fn F; (refine (N1.out).mono ?_); rintro e w2 ⟨rfl, hb⟩; replace HB := mK (lT HB.out hb); clear hb)
        go_roundg (l.length - (i + 1))
        case measure => omega
        case rel => exact ⟨i + 1, rfl, by omega, Nat.le_refl _, HB, ⟨fun t ht => by
            by_cases e : t = i
            · subst e; rw [Y.out]; exact hyx'.out
            · exact I.out t (by omega)⟩⟩
    · obtain rfl : i = l.length := by omega
      obtain rfl : cnt = -1 := by rw [← CN.out]; exact impl_LogOf.idx_none l h I.out
      go_wp2
      go_ret
      exact ⟨rfl, HB.out⟩
theorem impl_LogOf.contains (F : Nat) (A : Option Addr) (c : Nat) (l : List S83) (g o : Nat) (h : Int) (w : World) (eg : ∀ args w, (callFunc F args).run Tryz.prog w = .ok (.enter F args) w) (cl : ∀ (x : S83) (w : World), w.cell? ⟨g, o, none⟩ = some (.int .i64 h) → Calls Tryz.prog F #[.agg #[.int .i64 x.f0, .int .i64 x.f1, .int .i64 x.f2, .string x.f3], .pointer (some ⟨g, 0, none⟩)] w fun e w' => e = .returned (.bool (x.f2 == h)) ∧ Below w.heap.size w w') (hr : Kd.C k83 w A l.length l) (hc : l.length ≤ c) (hsz : l.length ≤ 1000) (hcell : w.cell? ⟨g, o, none⟩ = some (.int .i64 h)) :
    Calls Tryz.prog 64 #[.slice A l.length c, .func (.func F) #[] #[.pointer (some ⟨g, 0, none⟩)]] w fun e w' => e = .returned (.bool (l.any (fun x => x.f2 == h))) ∧ Below w.heap.size w w' := by
  rw [← impl_LogOf.idx_any]
  have N1 := mK (impl_LogOf.index F A c l g o h w eg cl hr hc hsz hcell)
  clear hr hcell
  generalize impl_LogOf.idx l h = cnt at N1 ⊢
  go_enter Tryz.func64, Tryz.ntmps64
  go_wp2_with (go_at_call 112; (refine (N1.out).mono ?_); rintro e w2 ⟨rfl, hb⟩)
  go_ret
  exact ⟨rfl, hb⟩
theorem impl_LogOf.size (A : Option Addr) (c n : Nat) (w : World) (hc : n ≤ c) (hn : n ≤ 1000) :
    Calls Tryz.prog 66 #[.slice A n c] w fun e w' => e = .returned (.int .i64 (n : Int)) ∧ Drawn0 w w' := by
  go_enter Tryz.func66, Tryz.ntmps66
  go_wp2
  go_ret
  exact ⟨by first | rfl | (simp; done), by repeat (first | exact Drawn0.refl _ | apply Drawn0.step)⟩
def impl_LogOf.l (k : Nat) (e a b c : Int) (T : List ByteArray) (m : ByteArray) : Nat → Nat → List S83 → Option (List S83 × Bool)
  | 0, _, out => some (out, true)
  | n + 1, i, out => (impl_lineOf.f m (4 + (i : Int))).bind fun s => (impl_ReadRecord.f k s).bind fun r =>
    if r.2.2.2.2 = true then
      if r.1 < e then impl_LogOf.l k e a b c T m n (i + 1) out
      else if e < r.1 then some ([], false)
      else if (out.length : Int) = (i : Int) then
        if r.2.1 = (i : Int) then (impl_canLog.f a b c T r.2.2.1).bind fun q => if q = true then (if out.any (fun x => x.f2 == r.2.2.1) = true then some ([], false) else impl_LogOf.l k e a b c T m n (i + 1) (out ++ [⟨r.1, r.2.1, r.2.2.1, r.2.2.2.1⟩])) else some ([], false)
        else some ([], false)
      else some ([], false)
    else impl_LogOf.l k e a b c T m n (i + 1) out
def impl_LogOf.f (k : Nat) (a0_0 a0_1 a0_2 : Int) (l0_3 : List ByteArray) (a1 : ByteArray) : Option (List S83 × Bool) := (impl_EpochOf.f k a0_0 a0_1 a0_2 l0_3 a1).bind fun e => if e < 0 then some ([], false) else if a0_1 ≤ 500 then impl_LogOf.l k e a0_0 a0_1 a0_2 l0_3 a1 a0_1.toNat 0 [] else none
theorem impl_LogOf.calls (k : Nat) (a0_0 : Int) (a0_1 : Int) (a0_2 : Int) (A0_3 : Option Addr) (c0_3 : Nat) (l0_3 : List ByteArray) (a1 : ByteArray) (r1 : List (S83)) (r2 : Bool) (w : World) (hr0_3 : Kd.C Kd.string w A0_3 l0_3.length l0_3) (hc0_3 : l0_3.length ≤ c0_3) (h : impl_LogOf.f k a0_0 a0_1 a0_2 l0_3 a1 = some (r1, r2)) :
    Calls Tryz.prog 24 #[.agg #[.int .i64 a0_0, .int .i64 a0_1, .int .i64 a0_2, .slice A0_3 l0_3.length c0_3], .string a1] w fun e w' => ∃ v0_ : Value, e = .returned (.tuple #[v0_, .bool r2]) ∧ Kd.R k83 83 w' w.heap.size (fun _ => True) v0_ r1 ∧ Below w.heap.size w w' := by
 have hu35 := Tryz.underlying35; have hu83 := Tryz.underlying83; have hu47 := Tryz.underlying47; have HR := mK hr0_3; have HC := mK hc0_3; have HB := mK (Below.refl w.heap.size w); clear hr0_3 hc0_3; unfold impl_LogOf.f at h; obtain ⟨ep, hep, h⟩ := Option.bind_eq_some_iff.mp h; have EP := mK hep; clear hep; by_cases c1 : ep < 0
 ·rw [if_pos c1] at h; obtain ⟨rfl, rfl⟩ := Prod.mk.inj (Option.some.inj h); have c1b : decide (ep < 0) = true := decide_eq_true c1; clear h c1; go_enter Tryz.func24, Tryz.ntmps24; go_wp2_with (first | ((with_reducible refine gate_dst (N := 2) rfl ?_); refine box_event ?hg (N := 2) ?hd (cs := #[.int .i64 a0_0, .int .i64 a0_1, .int .i64 a0_2, .slice A0_3 l0_3.length c0_3]) (t := 35) ?hr ?_; (case hd => rfl); (case hg => rfl); (case hr => first | (go_simp; done) | (go_simp; rfl)); intro gd hg w4 hbox hb; replace HB := mK (lT HB.out hb); have BK := mK hbox; clear hb hbox hg; have hcz0 : w4.cell? ⟨gd, 0, none⟩ = some (.int .i64 a0_0) := (bC BK.out 0).trans rfl; have hcz1 : w4.cell? ⟨gd, 1, none⟩ = some (.int .i64 a0_1) := (bC BK.out 1).trans rfl; have hcz2 : w4.cell? ⟨gd, 2, none⟩ = some (.int .i64 a0_2) := (bC BK.out 2).trans rfl; have hcz3 : w4.cell? ⟨gd, 3, none⟩ = some (.slice A0_3 l0_3.length c0_3) := (bC BK.out 3).trans rfl) | (go_at_call 61; (refine (impl_EpochOf.calls k a0_0 a0_1 a0_2 _ _ l0_3 a1 ep _ (cB HR.out HB.out) HC.out EP.out).mono ?_); rintro e w5 ⟨rfl, hb⟩; replace HB := mK (lT HB.out hb); replace BK := mK (bB BK.out hb); clear hcz0 hcz1 hcz2 hcz3; clear hb; have hcz0 : w5.cell? ⟨gd, 0, none⟩ = some (.int .i64 a0_0) := (bC BK.out 0).trans rfl; have hcz1 : w5.cell? ⟨gd, 1, none⟩ = some (.int .i64 a0_1) := (bC BK.out 1).trans rfl)); go_ret2; exact ⟨_, rfl, Kd.R_nil _ _ _ _ _, HB.out⟩
 ·rw [if_neg c1] at h; have c1b : decide (ep < 0) = false := decide_eq_false c1; clear c1; by_cases c2 : a0_1 ≤ 500
  ·rw [if_pos c2] at h; have H := mK h; have C2 := mK c2; clear h c2; go_enter Tryz.func24, Tryz.ntmps24; go_wp2_with (first | ((with_reducible refine gate_dst (N := 2) rfl ?_); refine box_event ?hg (N := 2) ?hd (cs := #[.int .i64 a0_0, .int .i64 a0_1, .int .i64 a0_2, .slice A0_3 l0_3.length c0_3]) (t := 35) ?hr ?_; (case hd => rfl); (case hg => rfl); (case hr => first | (go_simp; done) | (go_simp; rfl)); intro gd hg w4 hbox hb; replace HB := mK (lT HB.out hb); have BK := mK hbox; clear hb hbox hg; have hcz0 : w4.cell? ⟨gd, 0, none⟩ = some (.int .i64 a0_0) := (bC BK.out 0).trans rfl; have hcz1 : w4.cell? ⟨gd, 1, none⟩ = some (.int .i64 a0_1) := (bC BK.out 1).trans rfl; have hcz2 : w4.cell? ⟨gd, 2, none⟩ = some (.int .i64 a0_2) := (bC BK.out 2).trans rfl; have hcz3 : w4.cell? ⟨gd, 3, none⟩ = some (.slice A0_3 l0_3.length c0_3) := (bC BK.out 3).trans rfl) | (go_at_call 61; (refine (impl_EpochOf.calls k a0_0 a0_1 a0_2 _ _ l0_3 a1 ep _ (cB HR.out HB.out) HC.out EP.out).mono ?_); rintro e w5 ⟨rfl, hb⟩; replace HB := mK (lT HB.out hb); replace BK := mK (bB BK.out hb); clear hcz0 hcz1 hcz2 hcz3; clear hb; have hcz0 : w5.cell? ⟨gd, 0, none⟩ = some (.int .i64 a0_0) := (bC BK.out 0).trans rfl; have hcz1 : w5.cell? ⟨gd, 1, none⟩ = some (.int .i64 a0_1) := (bC BK.out 1).trans rfl) | ((with_reducible refine gate_dst (N := 17) rfl ?_); refine Kd.R_lit k83 _ 83 ?hg (N := 17) ?hd (xs := ([] : List S83)) (inner := []) (ok := fun _ => True) (okp := fun _ => True) ?hr ?hp (fun _ hk => hk) trivial (Below.refl _ _) (Nat.le_refl _) (by simp) ?_; (case hd => rfl); (case hg => rfl); (case hr => first | (go_simp; done) | (go_simp; rfl)); (case hp => exact (Reps.none _ _)); intro v1 w6 ho hb hg_ hnew_; clear hg_ hnew_; have HO := mK (Kd.R_lower ho (below_size HB.out)); replace HB := mK (lT HB.out hb); replace BK := mK (bB BK.out hb); clear hcz0 hcz1; clear hb ho; have hcz1 : w6.cell? ⟨gd, 1, none⟩ = some (.int .i64 a0_1) := (bC BK.out 1).trans rfl)); obtain ⟨Ao, co, eo⟩ := Kd.R_slice HO.out; subst eo; go_loopg [7, 20] a0_1.toNat (fun kx s7 s20 wr => ∃ (n i : Nat) (out : List S83) (Ao : Option Addr) (co : Nat), s7 = .slice Ao out.length co ∧ s20 = .int .i64 i ∧ n ≤ kx ∧ n + i = a0_1.toNat ∧ out.length ≤ i ∧ Aside0 (impl_LogOf.l k ep a0_0 a0_1 a0_2 l0_3 a1 n i out = some (r1, r2)) ∧ Aside0 (Kd.R k83 83 wr w.heap.size (fun _ => True) (.slice Ao out.length co) out) ∧ Aside0 (wr.heap[gd]? = some (.cells #[.int .i64 a0_0, .int .i64 a0_1, .int .i64 a0_2, .slice A0_3 l0_3.length c0_3] 35 (0, 0))) ∧ Aside0 (Below w.heap.size w wr)); (case atStart => exact ⟨a0_1.toNat, 0, [], Ao, co, rfl, rfl, Nat.le_refl _, by omega, Nat.zero_le _, H, HO, BK, HB⟩)
   case round =>
    clear H HO BK HB hcz1; obtain ⟨n, i, out, Ao, co, rfl, rfl, hg, hni, hol, H, HO, BK, HB⟩ := hrel; (have i5 : i ≤ 500 := by have := C2.out; omega)
    cases n with
    | zero =>
     have hx := H.out; rw [impl_LogOf.l] at hx; obtain ⟨rfl, rfl⟩ := Prod.mk.inj (Option.some.inj hx); have p1 : ((i : Int) < a0_1) = False := eq_false (by omega); have p1b : decide ((i : Int) < a0_1) = false := decide_eq_false (by omega); clear H hx; go_wp2; go_ret2; exact ⟨_, rfl, HO.out, HB.out⟩
    | succ n =>
     have hx := H.out; clear H; rw [impl_LogOf.l] at hx; replace hx := Option.bind_eq_some_iff.mp hx; obtain ⟨s, hs, hx⟩ := hx; replace hx := Option.bind_eq_some_iff.mp hx; obtain ⟨⟨t1, t2, t3, t4, t5⟩, hr, hx⟩ := hx; dsimp only at hx; have LF := mK hs; have RF := mK hr; have p1 : ((i : Int) < a0_1) = True := eq_true (by omega); have p1b : decide ((i : Int) < a0_1) = true := decide_eq_true (by omega); (have q4 : IntKind.i64.wrap (4 + (i : Int)) = 4 + (i : Int) := by rw [IntKind.wrap_i64]; omega); have X := mK hx; clear hs hr hx; go_upto_region 9 with (first | (go_at_call 63; (refine (impl_lineOf.calls a1 (4 + (i : Int)) s _ LF.out).mono ?_); rintro e w7 ⟨rfl, ⟨nd, rfl⟩⟩) | (go_at_call 62; (refine (impl_ReadRecord.calls k s t1 t2 t3 t4 t5 _ RF.out).mono ?_); rintro e w8 ⟨rfl, hb⟩; replace HB := mK (lT (lN HB.out nd) hb); replace BK := mK (bB (bN BK.out nd) hb); replace HO := mK (rB (rN HO.out nd) hb); clear hb) | ((with_reducible refine gate_dst (N := 9) rfl ?_); refine box_event ?hg (N := 9) ?hd (cs := #[.int .i64 0, .int .i64 0, .int .i64 0, .string (⟨#[]⟩ : ByteArray)]) (t := 83) ?hr ?_; (case hd => rfl); (case hg => rfl); (case hr => first | (go_simp; done) | (go_simp; rfl)); intro gr hg w9 hbox hb; have n0_ := mK (lT HB.out hb); have n1_ := mK (bB BK.out hb); have n2_ := mK (rB (rM (ok' := fun k_ => k_ ≠ gr) (Kd.R_bound HO.out) (fun k_ hk => by have := hk.2.2.1; omega)) hb); have n3_ := mK (by rw [hg]; exact (below_size HB.out) : w.heap.size ≤ gr); have n4_ := mK (by rw [hg]; exact Nat.ne_of_lt (blk_lt BK.out) : gd ≠ gr); clear HB BK HO; have HB := n0_; have BK := n1_; have HO := n2_; have GE := n3_; have NE := n4_; have BKr := mK hbox; clear n0_ n1_ n2_ n3_ n4_ hb hbox hg; have hr0 : w9.cell? ⟨gr, 0, none⟩ = some (.int .i64 0) := (bC BKr.out 0).trans rfl; have hr1 : w9.cell? ⟨gr, 1, none⟩ = some (.int .i64 0) := (bC BKr.out 1).trans rfl; have hr2 : w9.cell? ⟨gr, 2, none⟩ = some (.int .i64 0) := (bC BKr.out 2).trans rfl; have hr3 : w9.cell? ⟨gr, 3, none⟩ = some (.string (⟨#[]⟩ : ByteArray)) := (bC BKr.out 3).trans rfl; have hf0 := bF BKr.out 0; have hf1 := bF BKr.out 1; have hf2 := bF BKr.out 2; have hf3 := bF BKr.out 3)); (try simp only [Act.put, sI_, s0_, sS_]); have m0_ := mK (blk_far (p := ⟨gr, 3, none⟩) (blk_far (p := ⟨gr, 2, none⟩) (blk_far (p := ⟨gr, 1, none⟩) (blk_far (p := ⟨gr, 0, none⟩) BK.out NE.out (.int .i64 t1)) NE.out (.int .i64 t2)) NE.out (.int .i64 t3)) NE.out (.string t4)); have m1_ := mK (blk_put (cs := #[.int .i64 t1, .int .i64 t2, .int .i64 t3, .string (⟨#[]⟩ : ByteArray)]) (blk_put (cs := #[.int .i64 t1, .int .i64 t2, .int .i64 0, .string (⟨#[]⟩ : ByteArray)]) (blk_put (cs := #[.int .i64 t1, .int .i64 0, .int .i64 0, .string (⟨#[]⟩ : ByteArray)]) (blk_put (cs := #[.int .i64 0, .int .i64 0, .int .i64 0, .string (⟨#[]⟩ : ByteArray)]) BKr.out 0 (.int .i64 t1) rfl) 1 (.int .i64 t2) rfl) 2 (.int .i64 t3) rfl) 3 (.string t4) rfl); have m2_ := mK (Kd.R_far (p := ⟨gr, 3, none⟩) (Kd.R_far (p := ⟨gr, 2, none⟩) (Kd.R_far (p := ⟨gr, 1, none⟩) (Kd.R_far (p := ⟨gr, 0, none⟩) HO.out (fun _ hk => hk) (.int .i64 t1)) (fun _ hk => hk) (.int .i64 t2)) (fun _ hk => hk) (.int .i64 t3)) (fun _ hk => hk) (.string t4)); have m3_ := mK (lS (j := 3) (v := .string t4) (lS (j := 2) (v := .int .i64 t3) (lS (j := 1) (v := .int .i64 t2) (lS (j := 0) (v := .int .i64 t1) HB.out GE.out) GE.out) GE.out) GE.out); clear BK BKr HO HB hr0 hr1 hr2 hr3 hf0 hf1 hf2 hf3; generalize (((w9.setCell ⟨gr, 0, none⟩ (.int .i64 t1)).setCell ⟨gr, 1, none⟩ (.int .i64 t2)).setCell ⟨gr, 2, none⟩ (.int .i64 t3)).setCell ⟨gr, 3, none⟩ (.string t4) = w10 at *; have BK := m0_; have BKr := m1_; have HO := m2_; have HB := m3_; clear m0_ m1_ m2_ m3_; have hr0 : w10.cell? ⟨gr, 0, none⟩ = some (.int .i64 t1) := (bC BKr.out 0).trans rfl; have x0 := X.out; clear X; by_cases c5 : t5 = true
     ·subst c5; rw [if_pos rfl] at x0; by_cases c6 : t1 < ep
      ·rw [if_pos c6] at x0; have X := mK x0; have c6b : decide (t1 < ep) = true := decide_eq_true c6; clear x0 c6; go_wp2; go_roundg n; (case measure => omega); (case rel => exact ⟨n, i + 1, out, Ao, co, rfl, by first | rfl | rw [show wrap64 ((i : Int) + 1) = ((i + 1 : Nat) : Int) by unfold wrap64; omega], Nat.le_refl _, by omega, by omega, X, ⟨rM HO.out (fun _ _ => trivial)⟩, BK, HB⟩)
      ·rw [if_neg c6] at x0; have c6b : decide (t1 < ep) = false := decide_eq_false c6; have hr2 : w10.cell? ⟨gr, 2, none⟩ = some (.int .i64 t3) := (bC BKr.out 2).trans rfl; have CT := mK (impl_LogOf.contains 65 Ao co out gr 2 t3 w10 (enters_of Tryz.func65 (by kernel_rfl) rfl) (fun x W hc => impl_LogOf.closure x gr t3 W hc) (Kd.R_reads' HO.out).2.2 (Kd.R_reads' HO.out).2.1 (by omega) hr2); clear c6 hr2; generalize hany : out.any (fun x => x.f2 == t3) = any at CT x0; clear hany; have X := mK x0; clear x0; go_upto_region 11 with (go_at_call 64; (refine (CT.out).mono ?_); rintro e w11 ⟨rfl, hb⟩; replace HB := mK (lT HB.out hb); replace BK := mK (bB BK.out hb); replace HO := mK (rB HO.out hb); replace BKr := mK (bB BKr.out hb); clear hr0; clear hb); (try simp only [Act.put, sI_, s0_, sS_]); have hr0 : w11.cell? ⟨gr, 0, none⟩ = some (.int .i64 t1) := (bC BKr.out 0).trans rfl; have hr1 : w11.cell? ⟨gr, 1, none⟩ = some (.int .i64 t2) := (bC BKr.out 1).trans rfl; have hr2 : w11.cell? ⟨gr, 2, none⟩ = some (.int .i64 t3) := (bC BKr.out 2).trans rfl; have hcz0 : w11.cell? ⟨gd, 0, none⟩ = some (.int .i64 a0_0) := (bC BK.out 0).trans rfl; have hcz1 : w11.cell? ⟨gd, 1, none⟩ = some (.int .i64 a0_1) := (bC BK.out 1).trans rfl; have hcz2 : w11.cell? ⟨gd, 2, none⟩ = some (.int .i64 a0_2) := (bC BK.out 2).trans rfl; have hcz3 : w11.cell? ⟨gd, 3, none⟩ = some (.slice A0_3 l0_3.length c0_3) := (bC BK.out 3).trans rfl; have SZ := mK (fun W => impl_LogOf.size Ao co out.length W (Kd.R_reads' HO.out).2.1 (by omega)); have x0 := X.out; clear X CT; by_cases c7 : ep < t1
       ·rw [if_pos c7] at x0; have c7b : decide (ep < t1) = true := decide_eq_true c7; obtain ⟨rfl, rfl⟩ := Prod.mk.inj (Option.some.inj x0); clear x0 c7; go_wp2_with (first | (go_at_call 66; (refine (SZ.out _).mono ?_); rintro e w12 ⟨rfl, ⟨nd2, rfl⟩⟩) | (go_at_call 51; (refine (impl_canLog.calls a0_0 a0_1 a0_2 _ _ l0_3 t3 _ _ (cB HR.out (lN HB.out _)) HC.out QF.out).mono ?_); rintro e w12 ⟨rfl, hb⟩; replace HB := mK (lT (lN HB.out _) hb); replace BK := mK (bB (bN BK.out _) hb); replace HO := mK (rB (rN HO.out _) hb); replace BKr := mK (bB (bN BKr.out _) hb); clear hr0 hr1 hr2; clear hb)); go_ret2; exact ⟨_, rfl, Kd.R_nil _ _ _ _ _, by first | exact HB.out | exact lN HB.out _⟩
       ·rw [if_neg c7] at x0; have c7b : decide (ep < t1) = false := decide_eq_false c7; clear c7; by_cases c8 : (out.length : Int) = (i : Int)
        ·rw [if_pos c8] at x0; have c8b : ((out.length : Int) != (i : Int)) = false := bne_eq_false_iff_eq.mpr c8; have c8c : ((out.length : Int) == (i : Int)) = true := beq_iff_eq.mpr c8; have C8 := mK c8; clear c8; by_cases c9 : t2 = (i : Int)
         ·rw [if_pos c9] at x0; have c9b : (t2 != (i : Int)) = false := bne_eq_false_iff_eq.mpr c9; have c9c : (t2 == (i : Int)) = true := beq_iff_eq.mpr c9; clear c9; replace x0 := Option.bind_eq_some_iff.mp x0; obtain ⟨q, hq, x0⟩ := x0; have QF := mK hq; clear hq
          cases q with
          | true =>
           rw [if_pos rfl] at x0
           cases any with
           | true =>
            rw [if_pos rfl] at x0; obtain ⟨rfl, rfl⟩ := Prod.mk.inj (Option.some.inj x0); clear x0; go_wp2_with (first | (go_at_call 66; (refine (SZ.out _).mono ?_); rintro e w12 ⟨rfl, ⟨nd2, rfl⟩⟩) | (go_at_call 51; (refine (impl_canLog.calls a0_0 a0_1 a0_2 _ _ l0_3 t3 _ _ (cB HR.out (lN HB.out _)) HC.out QF.out).mono ?_); rintro e w12 ⟨rfl, hb⟩; replace HB := mK (lT (lN HB.out _) hb); replace BK := mK (bB (bN BK.out _) hb); replace HO := mK (rB (rN HO.out _) hb); replace BKr := mK (bB (bN BKr.out _) hb); clear hr0 hr1 hr2; clear hb)); go_ret2; exact ⟨_, rfl, Kd.R_nil _ _ _ _ _, by first | exact HB.out | exact lN HB.out _⟩
           | false =>
            rw [if_neg (by decide)] at x0; have X := mK x0; clear x0; go_wp2_with (first | (go_at_call 66; (refine (SZ.out _).mono ?_); rintro e w12 ⟨rfl, ⟨nd2, rfl⟩⟩) | (go_at_call 51; (refine (impl_canLog.calls a0_0 a0_1 a0_2 _ _ l0_3 t3 _ _ (cB HR.out (lN HB.out _)) HC.out QF.out).mono ?_); rintro e w12 ⟨rfl, hb⟩; replace HB := mK (lT (lN HB.out _) hb); replace BK := mK (bB (bN BK.out _) hb); replace HO := mK (rB (rN HO.out _) hb); replace BKr := mK (bB (bN BKr.out _) hb); clear hr0 hr1 hr2; clear hb; have hr0 : w12.cell? ⟨gr, 0, none⟩ = some (.int .i64 t1) := (bC BKr.out 0).trans rfl; have hr1 : w12.cell? ⟨gr, 1, none⟩ = some (.int .i64 t2) := (bC BKr.out 1).trans rfl; have hr2 : w12.cell? ⟨gr, 2, none⟩ = some (.int .i64 t3) := (bC BKr.out 2).trans rfl; have hr3 : w12.cell? ⟨gr, 3, none⟩ = some (.string t4) := (bC BKr.out 3).trans rfl) | ((with_reducible refine gate_builtin (b := .append) (xs := #[.tmp 68, .tmp 70]) rfl ?_); at_builtin; refine Kd.R_append k83 (w0 := w) w.heap.size rfl (.tmp 68) (.tmp 70) 47 83 (.agg #[(.int .i64 0), (.int .i64 0), (.int .i64 0), (.string ⟨#[]⟩)]) 40 rfl Tryz.underlying47 info83 rfl (by decide) (by omega) (.slice Ao out.length co) out (⟨t1, t2, t3, t4⟩ : S83) [.int .i64 t1, .int .i64 t2, .int .i64 t3, .string t4] (fun k_ => k_ ≠ gr) (fun _ => False) rfl rfl ?aP (fun _ hk => hk.elim) ?aF ?aO ?aB ?aS ?aL ?_; (case aP => exact k83_mkM _ _ _ (⟨t1, t2, t3, t4⟩ : S83)); (case aB => exact HB.out); (case aF => exact (fun k_ hk => Kd.freshB BKr.out k_ hk)); (case aO => exact HO.out); (case aS => exact below_size HB.out); (case aL => omega); intro v1 w13 ho hb hg_ hat; replace BK := mK (blk_grown BK.out hg_ (Kd.R_ne HO.out BK.out (by decide))); replace HB := mK hb; replace HO := mK ho; clear ho hb hg_ hat)); obtain ⟨Ao2, co2, eo2⟩ := Kd.R_slice HO.out; subst eo2; go_roundg n; (case measure => omega); (case rel => exact ⟨n, i + 1, out ++ [⟨t1, t2, t3, t4⟩], Ao2, co2, rfl, by first | rfl | rw [show wrap64 ((i : Int) + 1) = ((i + 1 : Nat) : Int) by unfold wrap64; omega], Nat.le_refl _, by omega, by rw [List.length_append]; simp; omega, X, ⟨rM HO.out (fun _ _ => trivial)⟩, BK, HB⟩)
          | false =>
           rw [if_neg (by decide)] at x0; obtain ⟨rfl, rfl⟩ := Prod.mk.inj (Option.some.inj x0); clear x0; go_wp2_with (first | (go_at_call 66; (refine (SZ.out _).mono ?_); rintro e w12 ⟨rfl, ⟨nd2, rfl⟩⟩) | (go_at_call 51; (refine (impl_canLog.calls a0_0 a0_1 a0_2 _ _ l0_3 t3 _ _ (cB HR.out (lN HB.out _)) HC.out QF.out).mono ?_); rintro e w12 ⟨rfl, hb⟩; replace HB := mK (lT (lN HB.out _) hb); replace BK := mK (bB (bN BK.out _) hb); replace HO := mK (rB (rN HO.out _) hb); replace BKr := mK (bB (bN BKr.out _) hb); clear hr0 hr1 hr2; clear hb)); go_ret2; exact ⟨_, rfl, Kd.R_nil _ _ _ _ _, by first | exact HB.out | exact lN HB.out _⟩
         ·rw [if_neg c9] at x0; have c9b : (t2 != (i : Int)) = true := bne_iff_ne.mpr c9; have c9c : (t2 == (i : Int)) = false := beq_eq_false_iff_ne.mpr c9; obtain ⟨rfl, rfl⟩ := Prod.mk.inj (Option.some.inj x0); clear x0 c9; go_wp2_with (first | (go_at_call 66; (refine (SZ.out _).mono ?_); rintro e w12 ⟨rfl, ⟨nd2, rfl⟩⟩) | (go_at_call 51; (refine (impl_canLog.calls a0_0 a0_1 a0_2 _ _ l0_3 t3 _ _ (cB HR.out (lN HB.out _)) HC.out QF.out).mono ?_); rintro e w12 ⟨rfl, hb⟩; replace HB := mK (lT (lN HB.out _) hb); replace BK := mK (bB (bN BK.out _) hb); replace HO := mK (rB (rN HO.out _) hb); replace BKr := mK (bB (bN BKr.out _) hb); clear hr0 hr1 hr2; clear hb)); go_ret2; exact ⟨_, rfl, Kd.R_nil _ _ _ _ _, by first | exact HB.out | exact lN HB.out _⟩
        ·rw [if_neg c8] at x0; have c8b : ((out.length : Int) != (i : Int)) = true := bne_iff_ne.mpr c8; have c8c : ((out.length : Int) == (i : Int)) = false := beq_eq_false_iff_ne.mpr c8; obtain ⟨rfl, rfl⟩ := Prod.mk.inj (Option.some.inj x0); clear x0 c8; go_wp2_with (first | (go_at_call 66; (refine (SZ.out _).mono ?_); rintro e w12 ⟨rfl, ⟨nd2, rfl⟩⟩) | (go_at_call 51; (refine (impl_canLog.calls a0_0 a0_1 a0_2 _ _ l0_3 t3 _ _ (cB HR.out (lN HB.out _)) HC.out QF.out).mono ?_); rintro e w12 ⟨rfl, hb⟩; replace HB := mK (lT (lN HB.out _) hb); replace BK := mK (bB (bN BK.out _) hb); replace HO := mK (rB (rN HO.out _) hb); replace BKr := mK (bB (bN BKr.out _) hb); clear hr0 hr1 hr2; clear hb)); go_ret2; exact ⟨_, rfl, Kd.R_nil _ _ _ _ _, by first | exact HB.out | exact lN HB.out _⟩
     ·obtain rfl := Bool.eq_false_iff.2 c5; rw [if_neg (by decide)] at x0; have X := mK x0; clear x0 c5; go_wp2; go_roundg n; (case measure => omega); (case rel => exact ⟨n, i + 1, out, Ao, co, rfl, by first | rfl | rw [show wrap64 ((i : Int) + 1) = ((i + 1 : Nat) : Int) by unfold wrap64; omega], Nat.le_refl _, by omega, by omega, X, ⟨rM HO.out (fun _ _ => trivial)⟩, BK, HB⟩)
  (·rw [if_neg c2] at h; cases h)
def impl_Device_has.f (a0_0 : ByteArray) (l0_1 : List (S106)) (a1 : Int) : Option (Bool) := (impl_within.f a1 0 (wrap64 ((wrap64 ((a0_0.size : Int) / 64)) - 1))).bind fun t146 => (some t146)
theorem impl_Device_has.calls (a0_0 : ByteArray) (A0_1 : Option Addr) (c0_1 : Nat) (l0_1 : List (S106)) (a1 : Int) (r : Bool) (w : World) (hr0_1 : Kd.C k106 w A0_1 l0_1.length l0_1) (hc0_1 : l0_1.length ≤ c0_1) (h : impl_Device_has.f a0_0 l0_1 a1 = some r) :
    Calls Tryz.prog 127 #[.agg #[.string a0_0, .slice A0_1 l0_1.length c0_1], .int .i64 a1] w fun e w' => e = .returned (.bool r) ∧ Below w.heap.size w w' := by
 have hu32 := Tryz.underlying32; have HR0_1 := mK hr0_1; have HC0_1 := mK hc0_1; clear hr0_1 hc0_1; have HB := mK (Below.refl w.heap.size w); have H : ((impl_within.f a1 0 (wrap64 ((wrap64 ((a0_0.size : Int) / 64)) - 1))).bind fun t173 => (some t173)) = some r := h; clear h; replace H := Option.bind_eq_some_iff.mp H; obtain ⟨t173, A30, H⟩ := H; replace H : (some t173) = some r := H; have A3 := mK A30; clear A30; obtain rfl := Option.some.inj H; go_enter Tryz.func127, Tryz.ntmps127; go_wp2_with (first | ((with_reducible refine gate_dst (N := 2) rfl ?_); refine box_event ?hg (N := 2) ?hd (cs := #[.string a0_0, .slice A0_1 l0_1.length c0_1]) (t := 32) ?hr ?_; (case hd => rfl); (case hg => rfl); (case hr => first | (go_simp; done) | (go_simp; rfl)); intro gb172 hg w4 hbox hb; have n0_ := mK (lT (by apply_rules only [HB.out, lA, lN, lD]) hb); have n1_ := mK (hbox); have n2_ := mK ((by rw [hg]; exact (below_size (by apply_rules only [HB.out, lA, lN, lD])) : w.heap.size ≤ gb172)); have n3_ := mK ((by rw [hg]; exact (below_size (by apply_rules only [HB.out, lA, lN, lD])) : w.heap.size ≤ gb172)); clear HB; have HB := n0_; have BK172 := n1_; have GW172 := n2_; have GE172 := n3_; clear n0_ n1_ n2_ n3_; clear hb hbox hg; have hcz5_0 : w4.cell? ⟨gb172, 0, none⟩ = some (.string a0_0) := (bC BK172.out 0).trans rfl; have hcz5_1 : w4.cell? ⟨gb172, 1, none⟩ = some (.slice A0_1 l0_1.length c0_1) := (bC BK172.out 1).trans rfl; have hfz5_0 := bF BK172.out 0; have hfz5_1 := bF BK172.out 1) | ((with_reducible refine gate_callee (f := 55) rfl ?_); refine goesL_ (some 11) rfl rfl Tryz.func55 (by kernel_rfl) rfl #[.int .i64 a1, .int .i64 0, .int .i64 (wrap64 ((wrap64 ((a0_0.size : Int) / 64)) - 1))] rfl (by (try simp only [List.map_toArray, List.map_cons, List.map_nil]); first | done | rfl | ((try simp only [decide_eq_false_iff_not, decide_eq_true_eq, eq_iff_iff, iff_true, iff_false, Int.not_lt, Int.not_le, Nat.not_lt, Nat.not_le, ByteArray.size_append, ByteArray.size_extract] at *); (rw [show wrap64 ((a0_0.size : Int) / 64) = (a0_0.size : Int) / 64 from by unfold Go.RowKit.wrap64; omega]); rfl) | ((try simp only [decide_eq_false_iff_not, decide_eq_true_eq, eq_iff_iff, iff_true, iff_false, Int.not_lt, Int.not_le, Nat.not_lt, Nat.not_le, ByteArray.size_append, ByteArray.size_extract] at *); (rw [show wrap64 ((a0_0.size : Int) / 64) = (a0_0.size : Int) / 64 from by unfold Go.RowKit.wrap64; omega, show wrap64 ((((a0_0.size : Int) / 64)) - 1) = (((a0_0.size : Int) / 64)) - 1 from by unfold Go.RowKit.wrap64; omega]); rfl)) ?_; (with_reducible refine (impl_within.calls a1 0 (wrap64 ((wrap64 ((a0_0.size : Int) / 64)) - 1)) t173 _ A3.out).mono ?_); rintro e w' ⟨rfl, ⟨nd, rfl⟩⟩; refine ⟨_, rfl, ?_⟩)); go_ret; exact ⟨by first | rfl | (simp [*] <;> rfl), by apply_rules only [HB.out, lA, lN, lD, (fun h_ => lS h_ GE172.out)]⟩
def impl_DeviceOk.A (l : List S106) (i : Nat) : Int := (rd_T106 l (i : Int)).f0
def impl_DeviceOk.one (s : ByteArray) (l : List S106) (i : Nat) : Bool := decide (0 ≤ impl_DeviceOk.A l i ∧ impl_DeviceOk.A l i ≤ (s.size : Int) / 64 - 1) && (!(decide (0 < i) && decide (impl_DeviceOk.A l i ≤ impl_DeviceOk.A l (i - 1))) && (decide (((rd_T106 l (i : Int)).f1.size : Int) = 64) && (decide (((rd_T106 l (i : Int)).f2.size : Int) = 64) || (rd_T106 l (i : Int)).f2.toList.isEmpty)))
def impl_DeviceOk.g (s : ByteArray) (l : List S106) : Bool := decide ((s.size : Int) % 64 = 0) && (decide (1 ≤ (s.size : Int) / 64 ∧ (s.size : Int) / 64 ≤ 128) && (List.range l.length).all (impl_DeviceOk.one s l))
def impl_DeviceOk.f (k : Nat) (a0_0 : ByteArray) (l0_1 : List (S106)) : Option (Bool) := if a0_0.size ≤ 1048576 ∧ l0_1.length ≤ 1048576 then some (impl_DeviceOk.g a0_0 l0_1) else none
theorem impl_DeviceOk.hasE (s : ByteArray) (l : List S106) (x : Int) (hs : s.size ≤ 1048576) : impl_Device_has.f s l x = some (decide (0 ≤ x ∧ x ≤ (s.size : Int) / 64 - 1)) := by
  have e : wrap64 (wrap64 ((s.size : Int) / 64) - 1) = (s.size : Int) / 64 - 1 := by unfold wrap64; omega
  unfold impl_Device_has.f impl_within.f
  rw [e]
  by_cases h1 : x ≥ 0
  · rw [if_pos h1, Option.bind_some]; congr 1; simp [show (0 : Int) ≤ x from h1]
  · rw [if_neg h1, Option.bind_some]; congr 1; symm; simp; omega
theorem impl_DeviceOk.all_range {p : Nat → Bool} {n : Nat} : ((List.range n).all p = true) ↔ ∀ i, i < n → p i = true := by
  rw [List.all_eq_true]; exact ⟨fun h i hi => h i (List.mem_range.2 hi), fun h i hi => h i (List.mem_range.1 hi)⟩
def impl_DeviceOk.tf (a b : Nat) : Array Bool := (List.replicate a true ++ List.replicate b false).toArray
theorem impl_DeviceOk.nxA {P : Program} {md : Region.Mode} {ops : Array Oper} {Q : Exit → Act → World → Prop} {S : World → Prop} {ds : List Nat} {j m : Nat} {a : Act} {w : World} (oi : Oper) (N : Option Tmp) (a' : Act) (hi : ops[j]? = some oi) (hN : oi.dst = N) (hc : takeB md ops ds (impl_DeviceOk.tf j (m + 1)) (impl_DeviceOk.tf (j + 1) m) j = true) (v : Value)
    (hQ : ∀ c a w, Q (.panic c) (a.put oi.dst v) w → Q (.panic c) a w) (hS : S w) (hw : Region.wanted oi (yielded ops a.tmps) = true) (hy : ∀ w, S w → (execOp a.eval oi).run P w = .ok (.value v) w) (ha : a.put N v = a') (h : wpAnyLast P md ops Q S ds m (impl_DeviceOk.tf (j + 1) m) a' w) : wpAnyLast P md ops Q S ds (m + 1) (impl_DeviceOk.tf j (m + 1)) a w :=
  take_ _ hi hN hc hQ (Or.inl ⟨hw, hy⟩) hS ha h
theorem impl_DeviceOk.nxB {P : Program} {md : Region.Mode} {ops : Array Oper} {Q : Exit → Act → World → Prop} {S : World → Prop} {ds : List Nat} {j m : Nat} {a : Act} {w : World} (oi : Oper) (N : Option Tmp) (a' : Act) (hi : ops[j]? = some oi) (hN : oi.dst = N) (hc : takeB md ops ds (impl_DeviceOk.tf j (m + 1)) (impl_DeviceOk.tf (j + 1) m) j = true)
    (hQ : ∀ c a w, Q (.panic c) (a.put oi.dst undef) w → Q (.panic c) a w) (hS : S w) (hw : Region.wanted oi (yielded ops a.tmps) = false) (ha : a.put N undef = a') (h : wpAnyLast P md ops Q S ds m (impl_DeviceOk.tf (j + 1) m) a' w) : wpAnyLast P md ops Q S ds (m + 1) (impl_DeviceOk.tf j (m + 1)) a w :=
  take_ _ hi hN hc hQ (Or.inr ⟨hw, rfl⟩) hS ha h
theorem impl_DeviceOk.far (w : World) (p : Addr) (g : Nat) (a b c : Value) {v : Value} (h : p.block ≠ g) (hc : w.cell? p = some v) : (((w.setCell ⟨g, 0, none⟩ a).setCell ⟨g, 1, none⟩ b).setCell ⟨g, 2, none⟩ c).cell? p = some v := by
  have hn : ∀ j : Nat, p ≠ (⟨g, j, none⟩ : Addr) := fun j e => h (by rw [e])
  rw [World.cell?_setCell_other _ _ _ _ (hn 2).symm, World.cell?_setCell_other _ _ _ _ (hn 1).symm, World.cell?_setCell_other _ _ _ _ (hn 0).symm]
  exact hc
theorem impl_DeviceOk.calls (k : Nat) (a0_0 : ByteArray) (A0_1 : Option Addr) (c0_1 : Nat) (l0_1 : List (S106)) (r : Bool) (w : World) (hr0_1 : Kd.C k106 w A0_1 l0_1.length l0_1) (hc0_1 : l0_1.length ≤ c0_1) (h : impl_DeviceOk.f k a0_0 l0_1 = some r) :
    Calls Tryz.prog 80 #[.agg #[.string a0_0, .slice A0_1 l0_1.length c0_1]] w fun e w' => e = .returned (.bool r) ∧ Below w.heap.size w w' := by
 have hu30 := Tryz.underlying32; have hu67 := Tryz.underlying106; have HR := mK hr0_1; have HC := mK hc0_1; have HB := mK (Below.refl w.heap.size w); clear hr0_1 hc0_1; unfold impl_DeviceOk.f at h; by_cases hbd : a0_0.size ≤ 1048576 ∧ l0_1.length ≤ 1048576
 ·rw [if_pos hbd] at h; obtain rfl := Option.some.inj h; clear h; obtain ⟨b1, b2⟩ := hbd; have NH := mK (fun x W (hW : Kd.C k106 W A0_1 l0_1.length l0_1) => impl_Device_has.calls a0_0 A0_1 c0_1 l0_1 x _ W hW HC.out (impl_DeviceOk.hasE a0_0 l0_1 x b1))
  have NW := mK (fun x (W : World) => show Calls Tryz.prog 55 #[.int .i64 x, .int .i64 1, .int .i64 128] W fun e w' => e = .returned (.bool (decide (1 ≤ x ∧ x ≤ 128))) ∧ Drawn0 W w' from by
    refine impl_within.calls x 1 128 _ W ?_
    unfold impl_within.f
    by_cases h1 : x ≥ 1
    · rw [if_pos h1]; congr 1; simp [show (1 : Int) ≤ x from h1]
    · rw [if_neg h1]; congr 1; symm; simp; omega)
  unfold impl_DeviceOk.g; by_cases c1 : (a0_0.size : Int) % 64 = 0
  ·have c1b0 : ((a0_0.size : Int) % 64 == 0) = true := beq_iff_eq.mpr c1; have c1b1 : ((a0_0.size : Int) % 64 != 0) = false := bne_eq_false_iff_eq.mpr c1; rw [decide_eq_true c1, Bool.true_and]; by_cases c2 : 1 ≤ (a0_0.size : Int) / 64 ∧ (a0_0.size : Int) / 64 ≤ 128
   ·have NW1 := mK (NW.out ((a0_0.size : Int) / 64)); rw [decide_eq_true c2] at NW1 ⊢; rw [Bool.true_and]; clear c1 c2 NW; generalize hres : (List.range l0_1.length).all (impl_DeviceOk.one a0_0 l0_1) = res; have RES := mK hres; clear hres; go_enter Tryz.func80, Tryz.ntmps80; go_wp2_with (first | ((with_reducible refine gate_dst (N := 1) rfl ?_); refine box_event ?hg (N := 1) ?hd (cs := #[.string a0_0, .slice A0_1 l0_1.length c0_1]) (t := 32) ?hr ?_; (case hd => rfl); (case hg => rfl); (case hr => first | (go_simp; done) | (go_simp; rfl)); intro gd hg w4 hbox hb; replace HB := mK (lT HB.out hb); have BK := mK hbox; clear hb hbox hg; have hcz0 : w4.cell? ⟨gd, 0, none⟩ = some (.string a0_0) := (bC BK.out 0).trans rfl; have hcz1 : w4.cell? ⟨gd, 1, none⟩ = some (.slice A0_1 l0_1.length c0_1) := (bC BK.out 1).trans rfl) | (go_at_call 55; (refine (NW1.out _).mono ?_); rintro e w5 ⟨rfl, hd⟩; have hb := hd.below; replace HB := mK (lT HB.out hb); replace BK := mK (bB BK.out hb); clear hcz0 hcz1; clear hb hd; have hcz0 : w5.cell? ⟨gd, 0, none⟩ = some (.string a0_0) := (bC BK.out 0).trans rfl; have hcz1 : w5.cell? ⟨gd, 1, none⟩ = some (.slice A0_1 l0_1.length c0_1) := (bC BK.out 1).trans rfl)); go_loopg [21] l0_1.length (fun kx s21 wr => ∃ i : Nat, s21 = .int .i64 i ∧ i ≤ l0_1.length ∧ l0_1.length - i ≤ kx ∧ Aside0 (Below w.heap.size w wr) ∧ Aside0 (wr.heap[gd]? = some (.cells #[.string a0_0, .slice A0_1 l0_1.length c0_1] 32 (0, 0))) ∧ Aside0 (∀ j : Nat, j < i → impl_DeviceOk.one a0_0 l0_1 j = true)); (case atStart => exact ⟨0, rfl, Nat.zero_le _, by omega, HB, BK, ⟨fun j hj => absurd hj (Nat.not_lt_zero _)⟩⟩)
    case round =>
     clear HB BK; obtain ⟨i, rfl, hin, hg, HB, BK, I⟩ := hrel; by_cases hlt : i < l0_1.length
     ·skip; have hpv := at_T106 HR.out ((i - 1 : Nat) : Int) (by omega) (by omega); obtain ⟨ad, ea, hx0, hx1, hx2⟩ := at_T106 HR.out (i : Int) (by omega) (by omega); cases ea; obtain ⟨ad', ea', hp0, -, -⟩ := hpv; cases ea'; replace hx0 := (HB.out.cell (World.block_lt_of_cell? w _ hx0)).trans hx0; replace hx1 := (HB.out.cell (World.block_lt_of_cell? w _ hx1)).trans hx1; replace hx2 := (HB.out.cell (World.block_lt_of_cell? w _ hx2)).trans hx2; replace hp0 := (HB.out.cell (World.block_lt_of_cell? w _ hp0)).trans hp0; simp only [Int.toNat_natCast] at hx0 hx1 hx2 hp0; have hone : impl_DeviceOk.one a0_0 l0_1 i = impl_DeviceOk.one a0_0 l0_1 i := rfl; (conv at hone => rhs; unfold impl_DeviceOk.one impl_DeviceOk.A); generalize (rd_T106 l0_1 ((i - 1 : Nat) : Int)).f0 = pv at hp0 hone; generalize rd_T106 l0_1 (i : Int) = x at hx0 hx1 hx2 hone; have NH1 := mK (NH.out x.f0); generalize hhs : decide (0 ≤ x.f0 ∧ x.f0 ≤ (a0_0.size : Int) / 64 - 1) = hs at NH1 hone; clear hhs; have ONE := mK hone; clear hone; have hcz0 : wr.cell? ⟨gd, 0, none⟩ = some (.string a0_0) := (bC BK.out 0).trans rfl; have hcz1 : wr.cell? ⟨gd, 1, none⟩ = some (.slice (some ad) l0_1.length c0_1) := (bC BK.out 1).trans rfl; (have w1 : IntKind.i64.wrap ((i : Int) + 1) = ((i + 1 : Nat) : Int) := by rw [IntKind.wrap_i64]; omega); go_upto_region 6 with (first | ((with_reducible refine gate_dst (N := 4) rfl ?_); refine box_event ?hg (N := 4) ?hd (cs := #[.int .i64 0, .string (⟨#[]⟩ : ByteArray), .string (⟨#[]⟩ : ByteArray)]) (t := 106) ?hr ?_; (case hd => rfl); (case hg => rfl); (case hr => first | (go_simp; done) | (go_simp; rfl)); intro gx hgx w9 hbox hb; have n0_ := mK (lT HB.out hb); have n1_ := mK (bB BK.out hb); have n2_ := (hb.cell (World.block_lt_of_cell? _ _ hp0)).trans hp0; have GE := mK (by rw [hgx]; exact (below_size HB.out) : w.heap.size ≤ gx); have NE := mK (by rw [hgx]; exact Nat.ne_of_lt (blk_lt BK.out) : gd ≠ gx); have NA := mK (by rw [hgx]; exact Nat.ne_of_lt (World.block_lt_of_cell? _ _ hp0) : (ad.add ((i - 1) * 3)).block ≠ gx); clear HB BK hcz0 hcz1 hx0 hx1 hx2 hp0; have HB := n0_; have BK := n1_; have hp0 := n2_; have BKx := mK hbox; clear n0_ n1_ n2_ hb hbox hgx; have hr0 : w9.cell? ⟨gx, 0, none⟩ = some (.int .i64 0) := (bC BKx.out 0).trans rfl; have hr1 : w9.cell? ⟨gx, 1, none⟩ = some (.string (⟨#[]⟩ : ByteArray)) := (bC BKx.out 1).trans rfl; have hr2 : w9.cell? ⟨gx, 2, none⟩ = some (.string (⟨#[]⟩ : ByteArray)) := (bC BKx.out 2).trans rfl; have hf0 := bF BKx.out 0; have hf1 := bF BKx.out 1; have hf2 := bF BKx.out 2)); (try simp only [Act.put, sI_, s0_, sS_]); have m0_ := mK (blk_far (p := ⟨gx, 2, none⟩) (blk_far (p := ⟨gx, 1, none⟩) (blk_far (p := ⟨gx, 0, none⟩) BK.out NE.out (.int .i64 x.f0)) NE.out (.string x.f1)) NE.out (.string x.f2)); have m1_ := mK (blk_put (cs := #[.int .i64 x.f0, .string x.f1, .string (⟨#[]⟩ : ByteArray)]) (blk_put (cs := #[.int .i64 x.f0, .string (⟨#[]⟩ : ByteArray), .string (⟨#[]⟩ : ByteArray)]) (blk_put (cs := #[.int .i64 0, .string (⟨#[]⟩ : ByteArray), .string (⟨#[]⟩ : ByteArray)]) BKx.out 0 (.int .i64 x.f0) rfl) 1 (.string x.f1) rfl) 2 (.string x.f2) rfl); have m2_ := mK (lS (j := 2) (v := .string x.f2) (lS (j := 1) (v := .string x.f1) (lS (j := 0) (v := .int .i64 x.f0) HB.out GE.out) GE.out) GE.out); have m3_ := mK (impl_DeviceOk.far w9 (ad.add ((i - 1) * 3)) gx (.int .i64 x.f0) (.string x.f1) (.string x.f2) NA.out hp0); clear HB BK BKx hp0 hr0 hr1 hr2 hf0 hf1 hf2; generalize ((w9.setCell ⟨gx, 0, none⟩ (.int .i64 x.f0)).setCell ⟨gx, 1, none⟩ (.string x.f1)).setCell ⟨gx, 2, none⟩ (.string x.f2) = w10 at *; have HB := m2_; have BK := m0_; have BKx := m1_; have HP := m3_; clear m0_ m1_ m2_ m3_; have hcz0 : w10.cell? ⟨gd, 0, none⟩ = some (.string a0_0) := (bC BK.out 0).trans rfl; have hcz1 : w10.cell? ⟨gd, 1, none⟩ = some (.slice (some ad) l0_1.length c0_1) := (bC BK.out 1).trans rfl; have hr0 : w10.cell? ⟨gx, 0, none⟩ = some (.int .i64 x.f0) := (bC BKx.out 0).trans rfl; have hr1 : w10.cell? ⟨gx, 1, none⟩ = some (.string x.f1) := (bC BKx.out 1).trans rfl; have hr2 : w10.cell? ⟨gx, 2, none⟩ = some (.string x.f2) := (bC BKx.out 2).trans rfl; have hp0 := HP.out; clear w1 hr0 hr1 hr2 hp0 hcz0 hcz1; have KP := mK (fun W (hb : Below w10.drew.heap.size w10.drew W) => show W.cell? ⟨gd, 0, none⟩ = some (.string a0_0) ∧ W.cell? ⟨gd, 1, none⟩ = some (.slice (some ad) l0_1.length c0_1) ∧ W.cell? ⟨gx, 0, none⟩ = some (.int .i64 x.f0) ∧ W.cell? ⟨gx, 1, none⟩ = some (.string x.f1) ∧ W.cell? ⟨gx, 2, none⟩ = some (.string x.f2) ∧ W.cell? (ad.add ((i - 1) * 3)) = some (.int .i64 pv) from ⟨(bC (bB (bD BK.out) hb) 0).trans rfl, (bC (bB (bD BK.out) hb) 1).trans rfl, (bC (bB (bD BKx.out) hb) 0).trans rfl, (bC (bB (bD BKx.out) hb) 1).trans rfl, (bC (bB (bD BKx.out) hb) 2).trans rfl, (hb.cell (World.block_lt_of_cell? _ _ HP.out)).trans HP.out⟩)
      have CS : (hs = false ∧ impl_DeviceOk.one a0_0 l0_1 i = false) ∨ (hs = true ∧ decide (0 < i) = true ∧ decide (x.f0 ≤ pv) = true ∧ impl_DeviceOk.one a0_0 l0_1 i = false) ∨ (hs = true ∧ decide (0 < i) = true ∧ decide (x.f0 ≤ pv) = false ∧ ((x.f1.size : Int) != 64) = true ∧ impl_DeviceOk.one a0_0 l0_1 i = false) ∨ (hs = true ∧ decide (0 < i) = true ∧ decide (x.f0 ≤ pv) = false ∧ ((x.f1.size : Int) != 64) = false ∧ ((x.f2.size : Int) != 64) = false ∧ impl_DeviceOk.one a0_0 l0_1 i = true) ∨ (hs = true ∧ decide (0 < i) = true ∧ decide (x.f0 ≤ pv) = false ∧ ((x.f1.size : Int) != 64) = false ∧ ((x.f2.size : Int) != 64) = true ∧ x.f2.toList.isEmpty = true ∧ impl_DeviceOk.one a0_0 l0_1 i = true) ∨ (hs = true ∧ decide (0 < i) = true ∧ decide (x.f0 ≤ pv) = false ∧ ((x.f1.size : Int) != 64) = false ∧ ((x.f2.size : Int) != 64) = true ∧ x.f2.toList.isEmpty = false ∧ impl_DeviceOk.one a0_0 l0_1 i = false) ∨ (hs = true ∧ decide (0 < i) = false ∧ ((x.f1.size : Int) != 64) = true ∧ impl_DeviceOk.one a0_0 l0_1 i = false) ∨ (hs = true ∧ decide (0 < i) = false ∧ ((x.f1.size : Int) != 64) = false ∧ ((x.f2.size : Int) != 64) = false ∧ impl_DeviceOk.one a0_0 l0_1 i = true) ∨ (hs = true ∧ decide (0 < i) = false ∧ ((x.f1.size : Int) != 64) = false ∧ ((x.f2.size : Int) != 64) = true ∧ x.f2.toList.isEmpty = true ∧ impl_DeviceOk.one a0_0 l0_1 i = true) ∨ (hs = true ∧ decide (0 < i) = false ∧ ((x.f1.size : Int) != 64) = false ∧ ((x.f2.size : Int) != 64) = true ∧ x.f2.toList.isEmpty = false ∧ impl_DeviceOk.one a0_0 l0_1 i = false) := by
        rw [ONE.out, show decide ((x.f1.size : Int) = 64) = !((x.f1.size : Int) != 64) by (by_cases h : (x.f1.size : Int) = 64 <;> simp [h]), show decide ((x.f2.size : Int) = 64) = !((x.f2.size : Int) != 64) by (by_cases h : (x.f2.size : Int) = 64 <;> simp [h])]
        generalize decide (0 < i) = z0
        generalize decide (x.f0 ≤ pv) = z1
        generalize ((x.f1.size : Int) != 64) = z2
        generalize ((x.f2.size : Int) != 64) = z3
        generalize x.f2.toList.isEmpty = z4
        cases hs <;> cases z0 <;> cases z1 <;> cases z2 <;> cases z3 <;> cases z4 <;> simp
      clear ONE; rcases CS with ⟨rfl, F⟩ | ⟨rfl, E0, E1, F⟩ | ⟨rfl, E0, E1, E2, F⟩ | ⟨rfl, E0, E1, E2, E3, F⟩ | ⟨rfl, E0, E1, E2, E3, E4, F⟩ | ⟨rfl, E0, E1, E2, E3, E4, F⟩ | ⟨rfl, E0, E2, F⟩ | ⟨rfl, E0, E2, E3, F⟩ | ⟨rfl, E0, E2, E3, E4, F⟩ | ⟨rfl, E0, E2, E3, E4, F⟩
      all_goals
       replace F := mK F; (try (have j0 : 0 < i := of_decide_eq_true E0; obtain ⟨jj, hjj⟩ : ∃ jj : Int, jj = (i : Int) - 1 := ⟨_, rfl⟩; have j1 : IntKind.i64.wrap ((i : Int) - 1) = jj := (by rw [hjj, IntKind.wrap_i64]; omega); have j2 : (0 ≤ jj) = True := eq_true (by omega); have j3 : (jj < (l0_1.length : Int)) = True := eq_true (by omega); have j4 : jj.toNat = i - 1 := (by omega); clear j0 hjj)); (try (have k2 : (x.f1.size != 64) = ((x.f1.size : Int) != 64) := (by by_cases h : x.f1.size = 64; (rw [h]; rfl); rw [bne_iff_ne.mpr h, bne_iff_ne.mpr (show (x.f1.size : Int) ≠ 64 by omega)]); rw [E2] at k2)); (try (have k3 : (x.f2.size != 64) = ((x.f2.size : Int) != 64) := (by by_cases h : x.f2.size = 64; (rw [h]; rfl); rw [bne_iff_ne.mpr h, bne_iff_ne.mpr (show (x.f2.size : Int) ≠ 64 by omega)]); rw [E3] at k3)); (try (have j5 : (!x.f2.toList.isEmpty) = !x.f2.toList.isEmpty := rfl; conv at j5 => rhs; rw [E4])); refine start_ (n := 38) (S := fun w' => w'.cell? ⟨gd, 0, none⟩ = some (.string a0_0) ∧ w'.cell? ⟨gd, 1, none⟩ = some (.slice (some ad) l0_1.length c0_1) ∧ w'.cell? ⟨gx, 0, none⟩ = some (.int .i64 x.f0) ∧ w'.cell? ⟨gx, 1, none⟩ = some (.string x.f1) ∧ w'.cell? ⟨gx, 2, none⟩ = some (.string x.f2) ∧ w'.cell? (ad.add ((i - 1) * 3)) = some (.int .i64 pv)) (ds := []) (impl_DeviceOk.tf 0 38) (by kernel_rfl) rfl rfl (KP.out _ (Below.refl _ _)) (fun hHeld => ?_); (repeat (first | (apply impl_DeviceOk.nxA; (case hi => (simp only [Nat.reduceAdd, List.getElem?_toArray, List.getElem?_cons_succ, List.getElem?_cons_zero]; rfl)); (case hN => rfl); (case hQ => exact fun _ _ _ h => h); (case hw => rfl); (case hc => kernel_rfl); (case hS => exact hHeld); (case hy => (rintro w' ⟨s0, s1, s2, s3, s4, s5⟩; go_simp; with_reducible rfl)); (case ha => (simp only [Act.put, sI_, s0_, sS_]; rfl))) | (apply impl_DeviceOk.nxB; (case hi => (simp only [Nat.reduceAdd, List.getElem?_toArray, List.getElem?_cons_succ, List.getElem?_cons_zero]; rfl)); (case hN => rfl); (case hQ => exact fun _ _ _ h => h); (case hw => rfl); (case hc => kernel_rfl); (case hS => exact hHeld); (case ha => (simp only [Act.put, sI_, s0_, sS_]; rfl))))); refine one_ (i := 3) (N := some 29) (impl_DeviceOk.tf 4 34) rfl rfl (by kernel_rfl) (by decide) (fun K hK => ?_); refine goes_ Tryz.func127 (by kernel_rfl) rfl #[.agg #[.string a0_0, .slice (some ad) l0_1.length c0_1], .int .i64 x.f0] (by rfl) rfl rfl (by (try simp only [mT_, mC_, mN_]) <;> rfl) ?_; refine (NH1.out _ (cD (cB HR.out HB.out))).mono ?_; rintro e w11 ⟨rfl, hbb⟩; refine ⟨_, rfl, ?_⟩; refine hK.out _ _ (KP.out _ hbb) (fun hHeld2 => ?_); clear hK K hHeld; have hHeld := hHeld2; clear hHeld2; replace HB := mK (lT (lD HB.out) hbb); replace BK := mK (bB (bD BK.out) hbb); clear BKx HP KP; clear hbb; refine norm_ (a' := ?_) ?_ ?_; rotate_left; (·show Act.put _ (some 29) _ = _; simp only [Act.put, sI_, s0_, sS_]; rfl); (repeat (first | (apply impl_DeviceOk.nxA; (case hi => (simp only [Nat.reduceAdd, List.getElem?_toArray, List.getElem?_cons_succ, List.getElem?_cons_zero]; rfl)); (case hN => rfl); (case hQ => exact fun _ _ _ h => h); (case hw => rfl); (case hc => kernel_rfl); (case hS => exact hHeld); (case hy => (rintro w' ⟨s0, s1, s2, s3, s4, s5⟩; go_simp; with_reducible rfl)); (case ha => (simp only [Act.put, sI_, s0_, sS_]; rfl))) | (apply impl_DeviceOk.nxB; (case hi => (simp only [Nat.reduceAdd, List.getElem?_toArray, List.getElem?_cons_succ, List.getElem?_cons_zero]; rfl)); (case hN => rfl); (case hQ => exact fun _ _ _ h => h); (case hw => rfl); (case hc => kernel_rfl); (case hS => exact hHeld); (case ha => (simp only [Act.put, sI_, s0_, sS_]; rfl))))); refine done_ (by kernel_rfl) ?_; go_wp2; (first | ((have R1 : (List.range l0_1.length).all (impl_DeviceOk.one a0_0 l0_1) = false := by rw [List.all_eq_false]; exact ⟨i, List.mem_range.2 hlt, by rw [F.out]; decide⟩); (obtain rfl : res = false := by rw [← RES.out]; exact R1); go_ret; exact ⟨rfl, HB.out⟩) | (go_roundg (l0_1.length - (i + 1)); (case measure => omega); (case rel => exact ⟨i + 1, by first | rfl | rw [show wrap64 ((i : Int) + 1) = ((i + 1 : Nat) : Int) by unfold wrap64; omega], by omega, Nat.le_refl _, HB, BK, ⟨fun j hj => by (by_cases e : j = i; (subst e; exact F.out); exact I.out j (by omega))⟩⟩)))
     (·(obtain rfl : i = l0_1.length := by omega); (obtain rfl : res = true := by rw [← RES.out]; exact impl_DeviceOk.all_range.2 I.out); go_wp2; go_ret; exact ⟨rfl, HB.out⟩)
   ·have NW1 := mK (NW.out ((a0_0.size : Int) / 64)); rw [decide_eq_false c2] at NW1 ⊢; rw [Bool.false_and]; clear c1 c2 NW; go_enter Tryz.func80, Tryz.ntmps80; go_wp2_with (first | ((with_reducible refine gate_dst (N := 1) rfl ?_); refine box_event ?hg (N := 1) ?hd (cs := #[.string a0_0, .slice A0_1 l0_1.length c0_1]) (t := 32) ?hr ?_; (case hd => rfl); (case hg => rfl); (case hr => first | (go_simp; done) | (go_simp; rfl)); intro gd hg w4 hbox hb; replace HB := mK (lT HB.out hb); have BK := mK hbox; clear hb hbox hg; have hcz0 : w4.cell? ⟨gd, 0, none⟩ = some (.string a0_0) := (bC BK.out 0).trans rfl; have hcz1 : w4.cell? ⟨gd, 1, none⟩ = some (.slice A0_1 l0_1.length c0_1) := (bC BK.out 1).trans rfl) | (go_at_call 55; (refine (NW1.out _).mono ?_); rintro e w5 ⟨rfl, hd⟩; have hb := hd.below; replace HB := mK (lT HB.out hb); replace BK := mK (bB BK.out hb); clear hcz0 hcz1; clear hb hd; have hcz0 : w5.cell? ⟨gd, 0, none⟩ = some (.string a0_0) := (bC BK.out 0).trans rfl; have hcz1 : w5.cell? ⟨gd, 1, none⟩ = some (.slice A0_1 l0_1.length c0_1) := (bC BK.out 1).trans rfl)); go_ret; exact ⟨rfl, HB.out⟩
  ·have c1b0 : ((a0_0.size : Int) % 64 == 0) = false := beq_eq_false_iff_ne.mpr c1; have c1b1 : ((a0_0.size : Int) % 64 != 0) = true := bne_iff_ne.mpr c1; rw [decide_eq_false c1, Bool.false_and]; clear c1; go_enter Tryz.func80, Tryz.ntmps80; go_wp2_with (first | ((with_reducible refine gate_dst (N := 1) rfl ?_); refine box_event ?hg (N := 1) ?hd (cs := #[.string a0_0, .slice A0_1 l0_1.length c0_1]) (t := 32) ?hr ?_; (case hd => rfl); (case hg => rfl); (case hr => first | (go_simp; done) | (go_simp; rfl)); intro gd hg w4 hbox hb; replace HB := mK (lT HB.out hb); have BK := mK hbox; clear hb hbox hg; have hcz0 : w4.cell? ⟨gd, 0, none⟩ = some (.string a0_0) := (bC BK.out 0).trans rfl; have hcz1 : w4.cell? ⟨gd, 1, none⟩ = some (.slice A0_1 l0_1.length c0_1) := (bC BK.out 1).trans rfl)); go_ret; exact ⟨rfl, HB.out⟩
 (·rw [if_neg hbd] at h; cases h)
theorem impl_Device_find.nan (x : Int) (w : World) : Calls Tryz.prog 181 #[.int .i64 x] w fun e w' => e = .returned (.bool false) ∧ Below w.heap.size w w' := by
  have HB := mK (Below.refl w.heap.size w)
  go_enter Tryz.func181, Tryz.ntmps181
  go_wp2
  go_ret
  exact ⟨by first | rfl | (simp; done), by (with_reducible repeat (first | exact HB.out | refine below_drew ?_))⟩
def impl_Device_find.cmp (x y : Int) : Int := if x < y then -1 else if y < x then 1 else 0
theorem impl_Device_find.compare (x y : Int) (w : World) : Calls Tryz.prog 170 #[.int .i64 x, .int .i64 y] w fun e w' => e = .returned (.int .i64 (impl_Device_find.cmp x y)) ∧ Below w.heap.size w w' := by
  have HB := mK (Below.refl w.heap.size w)
  have N1 := mK (fun W => impl_Device_find.nan x W)
  have N2 := mK (fun W => impl_Device_find.nan y W)
  unfold impl_Device_find.cmp
  by_cases c1 : x < y
  · rw [if_pos c1]
    go_enter Tryz.func170, Tryz.ntmps170
    go_wp2_with (first | (go_at_call 181; (first | refine (N1.out _).mono ?_ | refine (N2.out _).mono ?_); rintro e w2 ⟨rfl, hb⟩; replace HB := mK (lT HB.out hb); clear hb))
    go_ret
    exact ⟨rfl, HB.out⟩
  · rw [if_neg c1]
    by_cases c2 : y < x
    · rw [if_pos c2]
      go_enter Tryz.func170, Tryz.ntmps170
      go_wp2_with (first | (go_at_call 181; (first | refine (N1.out _).mono ?_ | refine (N2.out _).mono ?_); rintro e w2 ⟨rfl, hb⟩; replace HB := mK (lT HB.out hb); clear hb))
      go_ret
      exact ⟨rfl, HB.out⟩
    · rw [if_neg c2]
      go_enter Tryz.func170, Tryz.ntmps170
      go_wp2_with (first | (go_at_call 181; (first | refine (N1.out _).mono ?_ | refine (N2.out _).mono ?_); rintro e w2 ⟨rfl, hb⟩; replace HB := mK (lT HB.out hb); clear hb))
      go_ret
      exact ⟨rfl, HB.out⟩
theorem impl_Device_find.closure (x : Int) (a b : ByteArray) (y : Int) (w : World) : Calls Tryz.prog 169 #[.agg #[.int .i64 x, .string a, .string b], .int .i64 y] w fun e w' => e = .returned (.int .i64 (impl_Device_find.cmp x y)) ∧ Below w.heap.size w w' := by
  have hu67 := Tryz.underlying106
  have HB := mK (Below.refl w.heap.size w)
  have N1 := mK (fun W => impl_Device_find.compare x y W)
  go_enter Tryz.func169, Tryz.ntmps169
  go_wp2_with (first | ((with_reducible refine gate_dst (N := 2) rfl ?_); refine box_event ?hg (N := 2) ?hd (cs := #[.int .i64 x, .string a, .string b]) (t := 106) ?hr ?_; (case hd => rfl); (case hg => rfl); (case hr => first | (go_simp; done) | (go_simp; rfl)); intro gd hg w4 hbox hb; have n0_ := mK (lT HB.out hb); clear HB; have HB := n0_; have hcz0 : w4.cell? ⟨gd, 0, none⟩ = some (.int .i64 x) := (bC hbox 0).trans rfl; clear n0_ hb hbox hg) | (go_at_call 170; (refine (N1.out _).mono ?_); rintro e w2 ⟨rfl, hb⟩; replace HB := mK (lT HB.out hb); clear hb))
  go_ret
  exact ⟨rfl, HB.out⟩
def impl_Device_find.idx (l : List S106) (y : Int) : Nat := l.countP (fun x => decide (x.f0 < y))
theorem impl_Device_find.idx_eq (l : List S106) (y : Int) (i : Nat) (hi : i ≤ l.length) (h1 : ∀ t, t < i → (rd_T106 l (t : Int)).f0 < y) (h2 : ∀ t, i ≤ t → t < l.length → y ≤ (rd_T106 l (t : Int)).f0) : impl_Device_find.idx l y = i := by
  unfold impl_Device_find.idx
  have g : ∀ t (ht : t < l.length), rd_T106 l (t : Int) = l[t] := fun t ht => by simp [rd_T106, List.getD, ht]
  rw [← List.take_append_drop i l, List.countP_append]
  have e1 : (l.take i).countP (fun x => decide (x.f0 < y)) = (l.take i).length := by
    rw [List.countP_eq_length]
    intro a ha
    obtain ⟨t, ht, rfl⟩ := List.getElem_of_mem ha
    rw [List.length_take] at ht
    have := h1 t (by omega)
    rw [g t (by omega)] at this
    simpa using this
  have e2 : (l.drop i).countP (fun x => decide (x.f0 < y)) = 0 := by
    rw [List.countP_eq_zero]
    intro a ha
    obtain ⟨t, ht, rfl⟩ := List.getElem_of_mem ha
    rw [List.length_drop] at ht
    have := h2 (i + t) (by omega) (by omega)
    rw [g (i + t) (by omega)] at this
    simp; omega
  rw [e1, e2, List.length_take]; omega
def impl_Device_find.srt (l : List S106) : Prop := l.Pairwise (fun x y => x.f0 < y.f0)
instance (l : List S106) : Decidable (impl_Device_find.srt l) := by unfold impl_Device_find.srt; infer_instance
def impl_Device_find.f (a0_0 : ByteArray) (l0_1 : List S106) (a1 : Int) : Option (Int × Bool) := if impl_Device_find.srt l0_1 then if l0_1.length ≤ 4611686018427387903 then some ((impl_Device_find.idx l0_1 a1 : Nat), decide (impl_Device_find.idx l0_1 a1 < l0_1.length) && decide ((rd_T106 l0_1 (impl_Device_find.idx l0_1 a1 : Nat)).f0 = a1)) else none else none
theorem impl_Device_find.search (A : Option Addr) (c : Nat) (l : List S106) (y : Int) (w : World) (hr : Kd.C k106 w A l.length l) (hc : l.length ≤ c) (hs : impl_Device_find.srt l) (hsz : l.length ≤ 4611686018427387903) :
    Calls Tryz.prog 168 #[.slice A l.length c, .int .i64 y, .func (.func 169) #[] #[]] w fun e w' => e = .returned (.tuple #[.int .i64 (impl_Device_find.idx l y : Nat), .bool (decide (impl_Device_find.idx l y < l.length) && decide ((rd_T106 l (impl_Device_find.idx l y : Nat)).f0 = y))]) ∧ Below w.heap.size w w' := by
  have hu67 := Tryz.underlying106
  have eg : ∀ args w, (callFunc 169 args).run Tryz.prog w = .ok (.enter 169 args) w := enters_of Tryz.func169 (by kernel_rfl) rfl
  have HB := mK (Below.refl w.heap.size w)
  have HR := mK hr
  have M : Aside0 (∀ a b : Nat, a ≤ b → b < l.length → (rd_T106 l (b : Int)).f0 < y → (rd_T106 l (a : Int)).f0 < y) := ⟨by
    intro a b hab hb h
    have g : ∀ t (ht : t < l.length), rd_T106 l (t : Int) = l[t] := fun t ht => by simp [rd_T106, List.getD, ht]
    rw [g b hb] at h
    rw [g a (by omega)]
    rcases Nat.lt_or_ge a b with h1 | h1
    · have := (List.pairwise_iff_getElem.1 hs) a b (by omega) hb h1
      omega
    · obtain rfl : a = b := by omega
      exact h⟩
  clear hr hs
  generalize hidx : impl_Device_find.idx l y = cnt
  have CN := mK hidx
  clear hidx
  go_enter Tryz.func168, Tryz.ntmps168
  go_wp2
  go_loopg [9, 10] l.length (fun kx s9 s10 wr => ∃ lo hi : Nat, s9 = .int .i64 lo ∧ s10 = .int .i64 hi ∧ lo ≤ hi ∧ hi ≤ l.length ∧ hi - lo ≤ kx ∧ Aside0 (Below w.heap.size w wr) ∧
    Aside0 ((∀ t : Nat, t < lo → (rd_T106 l (t : Int)).f0 < y) ∧ (∀ t : Nat, hi ≤ t → t < l.length → y ≤ (rd_T106 l (t : Int)).f0)))
  case atStart => exact ⟨0, l.length, rfl, rfl, Nat.zero_le _, Nat.le_refl _, by omega, HB, ⟨fun t ht => absurd ht (Nat.not_lt_zero _), fun t h1 h2 => by omega⟩⟩
  case round =>
    clear HB
    obtain ⟨lo, hi, rfl, rfl, hlh, hin, hg, HB, I⟩ := hrel
    by_cases hlt : lo < hi
    · obtain ⟨ad, ea, hx0, hx1, hx2⟩ := at_T106 HR.out (((lo + hi) / 2 : Nat) : Int) (by omega) (by omega)
      cases ea
      replace hx0 := (HB.out.cell (World.block_lt_of_cell? w _ hx0)).trans hx0
      replace hx1 := (HB.out.cell (World.block_lt_of_cell? w _ hx1)).trans hx1
      replace hx2 := (HB.out.cell (World.block_lt_of_cell? w _ hx2)).trans hx2
      simp only [Int.toNat_natCast] at hx0 hx1 hx2
      generalize hy : rd_T106 l (((lo + hi) / 2 : Nat) : Int) = x at hx0 hx1 hx2
      have Y := mK hy
      clear hy
      have N1 := mK (fun W => impl_Device_find.closure x.f0 x.f1 x.f2 y W)
      generalize hcm : impl_Device_find.cmp x.f0 y = cm at N1
      have CM := mK hcm
      clear hcm
      by_cases hyx : cm < 0
      · have hxy : x.f0 < y := by have := CM.out; unfold impl_Device_find.cmp at this; split at this <;> first | assumption | (split at this <;> omega)
        go_wp2_with (go_at_fn 169; (refine (N1.out _).mono ?_); rintro e w2 ⟨rfl, hb⟩; replace HB := mK (lT HB.out hb); clear hb)
        go_roundg (hi - ((lo + hi) / 2 + 1))
        case measure => omega
        case rel => exact ⟨(lo + hi) / 2 + 1, hi, by rw [show ((lo : Int) + (hi : Int)) / 2 + 1 = (((lo + hi) / 2 + 1 : Nat) : Int) by omega], rfl, by omega, hin, Nat.le_refl _, HB, ⟨⟨fun t ht => M.out t ((lo + hi) / 2) (by omega) (by omega) (by rw [Y.out]; exact hxy), I.out.2⟩⟩⟩
      · have hxy : y ≤ x.f0 := by have := CM.out; unfold impl_Device_find.cmp at this; split at this <;> omega
        go_wp2_with (go_at_fn 169; (refine (N1.out _).mono ?_); rintro e w2 ⟨rfl, hb⟩; replace HB := mK (lT HB.out hb); clear hb)
        go_roundg ((lo + hi) / 2 - lo)
        case measure => omega
        case rel => exact ⟨lo, (lo + hi) / 2, rfl, by rw [show ((lo : Int) + (hi : Int)) / 2 = (((lo + hi) / 2 : Nat) : Int) by omega], by omega, by omega, Nat.le_refl _, HB, ⟨⟨I.out.1, fun t ht htn => Int.not_lt.1 fun h => by have := M.out ((lo + hi) / 2) t ht htn h; rw [Y.out] at this; omega⟩⟩⟩
    · obtain rfl : hi = lo := by omega
      have ecnt : cnt = hi := by
        rw [← CN.out]
        exact impl_Device_find.idx_eq l y hi hin (fun t ht => I.out.1 t ht) (fun t h3 h4 => I.out.2 t h3 h4)
      subst ecnt
      by_cases hn : cnt < l.length
      · obtain ⟨ad, ea, hx0, hx1, hx2⟩ := at_T106 HR.out (cnt : Int) (by omega) (by omega)
        cases ea
        replace hx0 := (HB.out.cell (World.block_lt_of_cell? w _ hx0)).trans hx0
        replace hx1 := (HB.out.cell (World.block_lt_of_cell? w _ hx1)).trans hx1
        replace hx2 := (HB.out.cell (World.block_lt_of_cell? w _ hx2)).trans hx2
        simp only [Int.toNat_natCast] at hx0 hx1 hx2
        generalize hy : rd_T106 l (cnt : Int) = x at hx0 hx1 hx2 ⊢
        have N1 := mK (fun W => impl_Device_find.closure x.f0 x.f1 x.f2 y W)
        generalize hcm : impl_Device_find.cmp x.f0 y = cm at N1
        have CM := mK hcm
        have Y := mK hy
        clear hcm hy
        by_cases hyx : cm = 0
        · have hxy := mK (show x.f0 = y by have := CM.out; unfold impl_Device_find.cmp at this; split at this <;> first | omega | (split at this <;> omega))
          go_wp2_with (go_at_fn 169; (refine (N1.out _).mono ?_); rintro e w2 ⟨rfl, hb⟩; replace HB := mK (lT HB.out hb); clear hb)
          go_ret2
          exact ⟨by try rw [Y.out]
                    simp [hn, hyx, hxy.out], HB.out⟩
        · have hxy := mK (show ¬ x.f0 = y by intro e; apply hyx; rw [← CM.out, e]; unfold impl_Device_find.cmp; simp)
          go_wp2_with (go_at_fn 169; (refine (N1.out _).mono ?_); rintro e w2 ⟨rfl, hb⟩; replace HB := mK (lT HB.out hb); clear hb)
          go_ret2
          exact ⟨by try rw [Y.out]
                    simp [hn, hyx, hxy.out], HB.out⟩
      · go_wp2
        go_ret2
        exact ⟨by simp [hn], HB.out⟩
theorem impl_Device_find.calls (a0_0 : ByteArray) (A0_1 : Option Addr) (c0_1 : Nat) (l0_1 : List (S106)) (a1 : Int) (r1 : Int) (r2 : Bool) (w : World) (hr0_1 : Kd.C k106 w A0_1 l0_1.length l0_1) (hc0_1 : l0_1.length ≤ c0_1) (h : impl_Device_find.f a0_0 l0_1 a1 = some (r1, r2)) :
    Calls Tryz.prog 155 #[.agg #[.string a0_0, .slice A0_1 l0_1.length c0_1], .int .i64 a1] w fun e w' => e = .returned (.tuple #[.int .i64 r1, .bool r2]) ∧ Below w.heap.size w w' := by
 have hu30 := Tryz.underlying32; unfold impl_Device_find.f at h; by_cases c1 : impl_Device_find.srt l0_1
 ·rw [if_pos c1] at h; by_cases c2 : l0_1.length ≤ 4611686018427387903
  ·rw [if_pos c2] at h; obtain ⟨rfl, rfl⟩ := Prod.mk.inj (Option.some.inj h); clear h; have HB := mK (Below.refl w.heap.size w); have N1 := mK (fun W (hW : Kd.C k106 W A0_1 l0_1.length l0_1) => impl_Device_find.search A0_1 c0_1 l0_1 a1 W hW hc0_1 c1 c2); have HR := mK hr0_1; clear hr0_1; go_enter Tryz.func155, Tryz.ntmps155; go_wp2_with (first | ((with_reducible refine gate_dst (N := 2) rfl ?_); refine box_event ?hg (N := 2) ?hd (cs := #[.string a0_0, .slice A0_1 l0_1.length c0_1]) (t := 32) ?hr ?_; (case hd => rfl); (case hg => rfl); (case hr => first | (go_simp; done) | (go_simp; rfl)); intro gd hg w4 hbox hb; have n0_ := mK (lT HB.out hb); clear HB; have HB := n0_; have hcz1 : w4.cell? ⟨gd, 1, none⟩ = some (.slice A0_1 l0_1.length c0_1) := (bC hbox 1).trans rfl; clear n0_ hb hbox hg) | (go_at_call 168; (refine (N1.out _ (cB HR.out HB.out)).mono ?_); rintro e w2 ⟨rfl, hb⟩; replace HB := mK (lT HB.out hb); clear hb)); go_ret2; exact ⟨rfl, HB.out⟩
  (·rw [if_neg c2] at h; cases h)
 (·rw [if_neg c1] at h; cases h)
def impl_Device_safeLine.f (a0_0 : ByteArray) (l0_1 : List (S106)) (a1 : Int) : Option (ByteArray) := if 0 ≤ (wrap64 (64 * a1)) then (if (wrap64 (64 * a1)) ≤ (wrap64 ((wrap64 (64 * a1)) + 64)) then (if (wrap64 ((wrap64 (64 * a1)) + 64)) ≤ (a0_0.size : Int) then (some (a0_0.extract ((wrap64 (64 * a1)) : Int).toNat ((wrap64 ((wrap64 (64 * a1)) + 64)) : Int).toNat)) else (none)) else (none)) else (none)
theorem impl_Device_safeLine.calls (a0_0 : ByteArray) (A0_1 : Option Addr) (c0_1 : Nat) (l0_1 : List (S106)) (a1 : Int) (r : ByteArray) (w : World) (hr0_1 : Kd.C k106 w A0_1 l0_1.length l0_1) (hc0_1 : l0_1.length ≤ c0_1) (h : impl_Device_safeLine.f a0_0 l0_1 a1 = some r) :
    Calls Tryz.prog 156 #[.agg #[.string a0_0, .slice A0_1 l0_1.length c0_1], .int .i64 a1] w fun e w' => e = .returned (.string r) ∧ Below w.heap.size w w' := by
 have hu32 := Tryz.underlying32; have HR0_1 := mK hr0_1; have HC0_1 := mK hc0_1; clear hr0_1 hc0_1; have HB := mK (Below.refl w.heap.size w); have H : (if 0 ≤ (wrap64 (64 * a1)) then (if (wrap64 (64 * a1)) ≤ (wrap64 ((wrap64 (64 * a1)) + 64)) then (if (wrap64 ((wrap64 (64 * a1)) + 64)) ≤ (a0_0.size : Int) then (some (a0_0.extract ((wrap64 (64 * a1)) : Int).toNat ((wrap64 ((wrap64 (64 * a1)) + 64)) : Int).toNat)) else (none)) else (none)) else (none)) = some r := h; clear h; obtain ⟨ji3, hji3⟩ : ∃ j_ : Int, (wrap64 (64 * a1)) = j_ := ⟨_, rfl⟩; (replace H : (if 0 ≤ (ji3) then (if (ji3) ≤ (wrap64 ((ji3) + 64)) then (if (wrap64 ((ji3) + 64)) ≤ (a0_0.size : Int) then (some (a0_0.extract ((ji3) : Int).toNat ((wrap64 ((ji3) + 64)) : Int).toNat)) else (none)) else (none)) else (none)) = some r := by first | (rw [hji3] at H; exact H) | (simp only [hji3] at H ⊢; exact H)); have hji3w : (IntKind.i64.wrap (64 * a1)) = ji3 := (i64_w _).trans hji3; by_cases c4 : 0 ≤ (ji3)
 ·rw [if_pos c4] at H; have c4b0 := eq_true c4; have c4b1 : decide (0 ≤ (ji3)) = true := decide_eq_true c4; clear c4; by_cases c5 : (ji3) ≤ (wrap64 ((ji3) + 64))
  ·rw [if_pos c5] at H; have c5b0 := eq_true c5; have c5b1 : decide ((ji3) ≤ (wrap64 ((ji3) + 64))) = true := decide_eq_true c5; by_cases c6 : (wrap64 ((ji3) + 64)) ≤ (a0_0.size : Int)
   ·rw [if_pos c6] at H; have c6b0 := eq_true c6; have c6b1 : decide ((wrap64 ((ji3) + 64)) ≤ (a0_0.size : Int)) = true := decide_eq_true c6; obtain rfl := Option.some.inj H; go_enter Tryz.func156, Tryz.ntmps156; go_wp2_with (first | ((with_reducible refine gate_dst (N := 2) rfl ?_); refine box_event ?hg (N := 2) ?hd (cs := #[.string a0_0, .slice A0_1 l0_1.length c0_1]) (t := 32) ?hr ?_; (case hd => rfl); (case hg => rfl); (case hr => first | (go_simp; done) | (go_simp; rfl)); intro gb275 hg w7 hbox hb; have n0_ := mK (lT (by apply_rules only [HB.out, lA, lN, lD]) hb); have n1_ := mK (hbox); have n2_ := mK ((by rw [hg]; exact (below_size (by apply_rules only [HB.out, lA, lN, lD])) : w.heap.size ≤ gb275)); have n3_ := mK ((by rw [hg]; exact (below_size (by apply_rules only [HB.out, lA, lN, lD])) : w.heap.size ≤ gb275)); clear HB; have HB := n0_; have BK275 := n1_; have GW275 := n2_; have GE275 := n3_; clear n0_ n1_ n2_ n3_; clear hb hbox hg; have hcz8_0 : w7.cell? ⟨gb275, 0, none⟩ = some (.string a0_0) := (bC BK275.out 0).trans rfl; have hcz8_1 : w7.cell? ⟨gb275, 1, none⟩ = some (.slice A0_1 l0_1.length c0_1) := (bC BK275.out 1).trans rfl; have hfz8_0 := bF BK275.out 0; have hfz8_1 := bF BK275.out 1)); go_ret; exact ⟨by first | rfl | (simp [errW_none, errW_some] <;> rfl) | (simp only [← hji3]; first | rfl | (simp [errW_none, errW_some] <;> rfl)) | (simp [*, errW_none, errW_some] <;> rfl), by apply_rules only [HB.out, lA, lN, lD, (fun h_ => lS h_ GE275.out)]⟩
   (·rw [if_neg c6] at H; exact absurd H (by simp))
  (·rw [if_neg c5] at H; exact absurd H (by simp))
 (·rw [if_neg c4] at H; exact absurd H (by simp))
def impl_Device_seenLine.f (a0_0 : ByteArray) (l0_1 : List (S106)) (a1 : Int) : Option (ByteArray) := (impl_Device_find.f a0_0 l0_1 a1).bind fun bt149 => (if bt149.2 = true then (if 0 ≤ bt149.1 then (if bt149.1 < (l0_1.length : Int) then (some ((rd_T106 l0_1 bt149.1).f1)) else (none)) else (none)) else ((impl_Device_safeLine.f a0_0 l0_1 a1).bind fun t152 => (some t152)))
theorem impl_Device_seenLine.calls (a0_0 : ByteArray) (A0_1 : Option Addr) (c0_1 : Nat) (l0_1 : List (S106)) (a1 : Int) (r : ByteArray) (w : World) (hr0_1 : Kd.C k106 w A0_1 l0_1.length l0_1) (hc0_1 : l0_1.length ≤ c0_1) (h : impl_Device_seenLine.f a0_0 l0_1 a1 = some r) :
    Calls Tryz.prog 129 #[.agg #[.string a0_0, .slice A0_1 l0_1.length c0_1], .int .i64 a1] w fun e w' => e = .returned (.string r) ∧ Below w.heap.size w w' := by
 have hu32 := Tryz.underlying32; have HR0_1 := mK hr0_1; have HC0_1 := mK hc0_1; clear hr0_1 hc0_1; have HB := mK (Below.refl w.heap.size w); have H : ((impl_Device_find.f a0_0 l0_1 a1).bind fun bt277 => (if bt277.2 = true then (if 0 ≤ bt277.1 then (if bt277.1 < (l0_1.length : Int) then (some ((rd_T106 l0_1 bt277.1).f1)) else (none)) else (none)) else ((impl_Device_safeLine.f a0_0 l0_1 a1).bind fun t280 => (some t280)))) = some r := h; clear h; replace H := Option.bind_eq_some_iff.mp H; obtain ⟨⟨t277, t278⟩, A30, H⟩ := H; (try dsimp only at H); have A3 := mK A30; clear A30; by_cases c4 : t278 = true
 ·subst c4; (have H1 : (if 0 ≤ t277 then (if t277 < (l0_1.length : Int) then (some ((rd_T106 l0_1 t277).f1)) else (none)) else (none)) = some r := by rw [if_pos rfl] at H; exact H); clear H; have H := H1; clear H1; by_cases c5 : 0 ≤ t277
  ·rw [if_pos c5] at H; have c5b0 : decide (0 ≤ t277) = true := decide_eq_true c5; clear c5; by_cases c6 : t277 < (l0_1.length : Int)
   ·rw [if_pos c6] at H; have c6b0 : decide (t277 < (l0_1.length : Int)) = true := decide_eq_true c6; clear c6; obtain rfl := Option.some.inj H; go_enter Tryz.func129, Tryz.ntmps129; go_wp2_with (first | ((with_reducible refine gate_dst (N := 2) rfl ?_); refine box_event ?hg (N := 2) ?hd (cs := #[.string a0_0, .slice A0_1 l0_1.length c0_1]) (t := 32) ?hr ?_; (case hd => rfl); (case hg => rfl); (case hr => first | (go_simp; done) | (go_simp; rfl)); intro gb276 hg w7 hbox hb; have n0_ := mK (lT (by apply_rules only [HB.out, lA, lN, lD]) hb); have n1_ := mK (hbox); have n2_ := mK ((by rw [hg]; exact (below_size (by apply_rules only [HB.out, lA, lN, lD])) : w.heap.size ≤ gb276)); have n3_ := mK ((by rw [hg]; exact (below_size (by apply_rules only [HB.out, lA, lN, lD])) : w.heap.size ≤ gb276)); clear HB; have HB := n0_; have BK276 := n1_; have GW276 := n2_; have GE276 := n3_; clear n0_ n1_ n2_ n3_; clear hb hbox hg; have hcz8_0 : w7.cell? ⟨gb276, 0, none⟩ = some (.string a0_0) := (bC BK276.out 0).trans rfl; have hcz8_1 : w7.cell? ⟨gb276, 1, none⟩ = some (.slice A0_1 l0_1.length c0_1) := (bC BK276.out 1).trans rfl; have hfz8_0 := bF BK276.out 0; have hfz8_1 := bF BK276.out 1) | ((with_reducible refine gate_callee (f := 155) rfl ?_); refine goesL_ (some 10) rfl rfl Tryz.func155 (by kernel_rfl) rfl #[.agg #[.string a0_0, .slice A0_1 l0_1.length c0_1], .int .i64 a1] rfl (by (try simp only [mT_, mC_, mN_]) <;> rfl) ?_; (with_reducible refine (impl_Device_find.calls a0_0 _ _ l0_1 a1 t277 true _ ?side1 ?side2 A3.out).mono ?_); (case side1 => repeat (first | exact (cB HR0_1.out HB.out) | (with_reducible refine Kd.C_alloc ?_ _) | (with_reducible refine Kd.C_drewN ?_ _) | (with_reducible refine Kd.C_drew ?_))); (case side2 => exact HC0_1.out); rintro e w9 ⟨rfl, hb⟩; refine ⟨_, rfl, ?_⟩; have hB_ := hb; (with_reducible repeat (first | replace hB_ := pN_ hB_ | replace hB_ := pD_ hB_ | replace hB_ := pA_ hB_)); replace BK276 := bb_ BK276 hB_; replace HB := lb_ HB hB_; clear hB_; have hcz10_0 : w9.cell? ⟨gb276, 0, none⟩ = some (.string a0_0) := (bC BK276.out 0).trans rfl; have hcz10_1 : w9.cell? ⟨gb276, 1, none⟩ = some (.slice A0_1 l0_1.length c0_1) := (bC BK276.out 1).trans rfl; have hfz10_0 := bF BK276.out 0; have hfz10_1 := bF BK276.out 1; have p279 : 0 ≤ (t277 : Int) := of_decide_eq_true (by first | (with_reducible assumption) | assumption); have q279 : t277 < (l0_1.length : Int) := of_decide_eq_true (by first | (with_reducible assumption) | assumption); obtain ⟨ad279, e279, hx279_0, hx279_1, hx279_2⟩ := at_T106 HR0_1.out t277 p279 q279; cases e279; replace hx279_0 := (HB.out.cell (World.block_lt_of_cell? w _ hx279_0)).trans hx279_0; replace hx279_1 := (HB.out.cell (World.block_lt_of_cell? w _ hx279_1)).trans hx279_1; replace hx279_2 := (HB.out.cell (World.block_lt_of_cell? w _ hx279_2)).trans hx279_2; replace p279 := eq_true p279; replace q279 := eq_true q279)); go_ret; exact ⟨by first | rfl | (simp [*] <;> rfl), by apply_rules only [HB.out, lA, lN, lD, (fun h_ => lS h_ GE276.out)]⟩
   (·rw [if_neg c6] at H; exact absurd H (by simp))
  (·rw [if_neg c5] at H; exact absurd H (by simp))
 ·replace c4 := Bool.eq_false_iff.mpr c4; subst c4; (have H1 : ((impl_Device_safeLine.f a0_0 l0_1 a1).bind fun t280 => (some t280)) = some r := by rw [if_neg (show ¬ (false = true) by decide)] at H; exact H); clear H; have H := H1; clear H1; replace H := Option.bind_eq_some_iff.mp H; obtain ⟨t280, A110, H⟩ := H; (try dsimp only at H); have A11 := mK A110; clear A110; obtain rfl := Option.some.inj H; go_enter Tryz.func129, Tryz.ntmps129; go_wp2_with (first | ((with_reducible refine gate_dst (N := 2) rfl ?_); refine box_event ?hg (N := 2) ?hd (cs := #[.string a0_0, .slice A0_1 l0_1.length c0_1]) (t := 32) ?hr ?_; (case hd => rfl); (case hg => rfl); (case hr => first | (go_simp; done) | (go_simp; rfl)); intro gb276 hg w12 hbox hb; have n0_ := mK (lT (by apply_rules only [HB.out, lA, lN, lD]) hb); have n1_ := mK (hbox); have n2_ := mK ((by rw [hg]; exact (below_size (by apply_rules only [HB.out, lA, lN, lD])) : w.heap.size ≤ gb276)); have n3_ := mK ((by rw [hg]; exact (below_size (by apply_rules only [HB.out, lA, lN, lD])) : w.heap.size ≤ gb276)); clear HB; have HB := n0_; have BK276 := n1_; have GW276 := n2_; have GE276 := n3_; clear n0_ n1_ n2_ n3_; clear hb hbox hg; have hcz13_0 : w12.cell? ⟨gb276, 0, none⟩ = some (.string a0_0) := (bC BK276.out 0).trans rfl; have hcz13_1 : w12.cell? ⟨gb276, 1, none⟩ = some (.slice A0_1 l0_1.length c0_1) := (bC BK276.out 1).trans rfl; have hfz13_0 := bF BK276.out 0; have hfz13_1 := bF BK276.out 1) | ((with_reducible refine gate_callee (f := 155) rfl ?_); refine goesL_ (some 10) rfl rfl Tryz.func155 (by kernel_rfl) rfl #[.agg #[.string a0_0, .slice A0_1 l0_1.length c0_1], .int .i64 a1] rfl (by (try simp only [mT_, mC_, mN_]) <;> rfl) ?_; (with_reducible refine (impl_Device_find.calls a0_0 _ _ l0_1 a1 t277 false _ ?side1 ?side2 A3.out).mono ?_); (case side1 => repeat (first | exact (cB HR0_1.out HB.out) | (with_reducible refine Kd.C_alloc ?_ _) | (with_reducible refine Kd.C_drewN ?_ _) | (with_reducible refine Kd.C_drew ?_))); (case side2 => exact HC0_1.out); rintro e w14 ⟨rfl, hb⟩; refine ⟨_, rfl, ?_⟩; have hB_ := hb; (with_reducible repeat (first | replace hB_ := pN_ hB_ | replace hB_ := pD_ hB_ | replace hB_ := pA_ hB_)); replace BK276 := bb_ BK276 hB_; replace HB := lb_ HB hB_; clear hB_; have hcz15_0 : w14.cell? ⟨gb276, 0, none⟩ = some (.string a0_0) := (bC BK276.out 0).trans rfl; have hcz15_1 : w14.cell? ⟨gb276, 1, none⟩ = some (.slice A0_1 l0_1.length c0_1) := (bC BK276.out 1).trans rfl; have hfz15_0 := bF BK276.out 0; have hfz15_1 := bF BK276.out 1) | ((with_reducible refine gate_callee (f := 156) rfl ?_); refine goesL_ (some 22) rfl rfl Tryz.func156 (by kernel_rfl) rfl #[.agg #[.string a0_0, .slice A0_1 l0_1.length c0_1], .int .i64 a1] rfl (by (try simp only [mT_, mC_, mN_]) <;> rfl) ?_; (with_reducible refine (impl_Device_safeLine.calls a0_0 _ _ l0_1 a1 t280 _ ?side1 ?side2 A11.out).mono ?_); (case side1 => repeat (first | exact (cB HR0_1.out HB.out) | (with_reducible refine Kd.C_alloc ?_ _) | (with_reducible refine Kd.C_drewN ?_ _) | (with_reducible refine Kd.C_drew ?_))); (case side2 => exact HC0_1.out); rintro e w16 ⟨rfl, hb⟩; refine ⟨_, rfl, ?_⟩; have hB_ := hb; (with_reducible repeat (first | replace hB_ := pN_ hB_ | replace hB_ := pD_ hB_ | replace hB_ := pA_ hB_)); replace BK276 := bb_ BK276 hB_; replace HB := lb_ HB hB_; clear hB_)); go_ret; exact ⟨by first | rfl | (simp [*] <;> rfl), by apply_rules only [HB.out, lA, lN, lD, (fun h_ => lS h_ GE276.out)]⟩
end Go.Proofs.YtngccjeicolcpaaGreatDoor.PFnLogFull
