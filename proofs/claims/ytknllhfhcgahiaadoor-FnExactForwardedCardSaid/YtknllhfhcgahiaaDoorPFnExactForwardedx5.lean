-- by a patched copy of the print (wip/tools/patch_print.py)
import Derived.Lib.LazyBuf
import Derived.Test.YtknllhfhcgahiaaDoorPFnExactForwardedx0
import Derived.Test.YtknllhfhcgahiaaDoorPFnExactForwardedx4
namespace Go.Proofs.YtknllhfhcgahiaaDoor.PFnExactForwarded
open Go.RowKit Go.Proofs.YtknllhfhcgahiaaDoorW.PrintWords Go.Proofs.YtknllhfhcgahiaaDoorW.PrintLast Go.Proofs.YtknllhfhcgahiaaDoorW.PrintMore
attribute [local go_sem] max2_int min2_int max_two min_two max_three min_three max_four min_four   -- for this text's walks alone
open Go.Proofs.YtknllhfhcgahiaaDoorW.PrintWords renaming blk_drewN → bN, blk_drew → bD, blk_alloc → bA, below_alloc → lA, pw_below_drewN → lN, below_drew1 → lD, below_set → lS, below_step → lT, blk_below → bB, blk_cell → bC, blk_frozen → bF
open Go.Proofs.YtknllhfhcgahiaaDoorW.PrintWords.Aside0 renaming mk → mK
set_option linter.unusedVariables false
set_option linter.unusedSimpArgs false

/-! ### impl_Forwarded: function 41 -/
set_option maxHeartbeats 1000000 in
theorem impl_Forwarded.closure (x : Int) (w : World) : Calls Tryd.prog 85 #[.int .i64 x] w fun e w' => e = .returned (.bool (!impl_ObjOk.ref x)) ∧ Drawn0 w w' := by
  obtain ⟨r, hr, hd⟩ := impl_ObjOk.rk x
  have hd' : decide (r < 0) = !impl_ObjOk.ref x := by rw [← hd]; by_cases q : r < 0 <;> simp [q] <;> omega
  have N1 := mK (fun W => impl_RefKind.calls 9 x r W hr)
  rw [← hd']
  clear hr hd hd'
  go_enter Tryd.func85, Tryd.ntmps85
  go_wp2_with (go_at_call 82; (refine (N1.out _).mono ?_); rintro e w2 ⟨rfl, ⟨nd, rfl⟩⟩)
  go_ret
  exact ⟨by first | rfl | (simp; done), by repeat (first | exact Drawn0.refl _ | apply Drawn0.step)⟩
def impl_Forwarded.idx (l : List Int) : Int := match l.findIdx? (fun s => !impl_ObjOk.ref s) with | some i => (i : Int) | none => -1
theorem impl_Forwarded.rd_at (l : List Int) (t : Nat) (ht : t < l.length) : rd l (t : Int) = l[t] := by unfold rd; rw [Int.toNat_natCast, List.getD_eq_getElem?_getD, List.getElem?_eq_getElem ht]; rfl
theorem impl_Forwarded.idx_at (l : List Int) (i : Nat) (hi : i < l.length) (h1 : ∀ t : Nat, t < i → impl_ObjOk.ref (rd l (t : Int)) = true) (h2 : impl_ObjOk.ref (rd l (i : Int)) = false) : impl_Forwarded.idx l = i := by
  have e : l.findIdx? (fun s => !impl_ObjOk.ref s) = some i := by
    rw [List.findIdx?_eq_some_iff_getElem]
    refine ⟨hi, by rw [← impl_Forwarded.rd_at l i hi, h2]; rfl, fun j hj => ?_⟩
    have := h1 j hj
    rw [impl_Forwarded.rd_at l j (by omega)] at this
    simp [this]
  unfold impl_Forwarded.idx
  rw [e]
theorem impl_Forwarded.idx_none (l : List Int) (h1 : ∀ t : Nat, t < l.length → impl_ObjOk.ref (rd l (t : Int)) = true) : impl_Forwarded.idx l = -1 := by
  have e : l.findIdx? (fun s => !impl_ObjOk.ref s) = none := by
    rw [List.findIdx?_eq_none_iff]
    intro x hx
    obtain ⟨t, ht, rfl⟩ := List.getElem_of_mem hx
    have := h1 t ht
    rw [impl_Forwarded.rd_at l t ht] at this
    simp [this]
  unfold impl_Forwarded.idx
  rw [e]
theorem impl_Forwarded.idx_all (l : List Int) : decide (impl_Forwarded.idx l ≥ 0) = !l.all impl_ObjOk.ref := by
  unfold impl_Forwarded.idx
  cases e : l.findIdx? (fun s => !impl_ObjOk.ref s) with
  | none =>
    rw [List.findIdx?_eq_none_iff] at e
    have : l.all impl_ObjOk.ref = true := by rw [List.all_eq_true]; intro x hx; simpa using e x hx
    rw [this]; rfl
  | some i =>
    rw [List.findIdx?_eq_some_iff_getElem] at e
    obtain ⟨hi, h2, _⟩ := e
    have : l.all impl_ObjOk.ref = false := by
      rw [List.all_eq_false]; exact ⟨l[i], List.getElem_mem hi, by simpa using h2⟩
    rw [this]; simp
set_option maxHeartbeats 1000000 in
theorem impl_Forwarded.index (A : Option Addr) (c : Nat) (l : List Int) (w : World) (hr : Kd.C (Kd.int .i64) w A l.length l) (hc : l.length ≤ c) (hsz : l.length ≤ 400) :
    Calls Tryd.prog 120 #[.slice A l.length c, .func (.func 85) #[] #[]] w fun e w' => e = .returned (.int .i64 (impl_Forwarded.idx l)) ∧ Drawn0 w w' := by
  have eg : ∀ args w, (callFunc 85 args).run Tryd.prog w = .ok (.enter 85 args) w := enters_of Tryd.func85 (by kernel_rfl) rfl
  have HR := mK hr
  clear hr
  generalize hidx : impl_Forwarded.idx l = cnt
  have CN := mK hidx
  clear hidx
  go_enter Tryd.func120, Tryd.ntmps120
  go_wp2
  go_loopg [8] l.length (fun kx s8 wr => ∃ i m : Nat, s8 = .int .i64 i ∧ wr = w.drewN m ∧ i ≤ l.length ∧ l.length - i ≤ kx ∧ Aside0 (∀ t : Nat, t < i → impl_ObjOk.ref (rd l (t : Int)) = true))
  case atStart => exact ⟨0, 0, rfl, rfl, Nat.zero_le _, by omega, ⟨fun t ht => absurd ht (Nat.not_lt_zero _)⟩⟩
  case round =>
    obtain ⟨i, m, rfl, rfl, hin, hg, I⟩ := hrel
    by_cases hlt : i < l.length
    · obtain ⟨ad, ea, hx0⟩ := Kd.at_int HR.out (i : Int) (by omega) (by omega)
      cases ea
      simp only [Int.toNat_natCast] at hx0
      generalize hy : rd l (i : Int) = x at hx0
      have Y := mK hy
      clear hy
      have N1 := mK (fun W => impl_Forwarded.closure x W)
      by_cases hyx : impl_ObjOk.ref x = true
      · rw [hyx] at N1
        have hyx' := mK hyx
        clear hyx
        have N1' := mK (show ∀ W, Calls Tryd.prog 85 #[.int .i64 x] W fun e w' => e = .returned (.bool false) ∧ Drawn0 W w' from N1.out)
        clear N1
        go_wp2_with (go_at_fn 85; (refine (N1'.out _).mono ?_); rintro e w2 ⟨rfl, ⟨nd, rfl⟩⟩)
        go_roundg (l.length - (i + 1))
        case measure => omega
        case rel => exact ⟨i + 1, _, rfl, rfl, by omega, Nat.le_refl _, ⟨fun t ht => by
            by_cases e : t = i
            · subst e; rw [Y.out]; exact hyx'.out
            · exact I.out t (by omega)⟩⟩
      · have hyx' := mK (Bool.eq_false_iff.2 hyx)
        have N1' := mK (show ∀ W, Calls Tryd.prog 85 #[.int .i64 x] W fun e w' => e = .returned (.bool true) ∧ Drawn0 W w' from fun W => by have := N1.out W; rw [hyx'.out] at this; exact this)
        clear N1 hyx
        obtain rfl : cnt = (i : Int) := by rw [← CN.out]; exact impl_Forwarded.idx_at l i hlt I.out (by rw [Y.out]; exact hyx'.out)
        go_wp2_with (go_at_fn 85; (refine (N1'.out _).mono ?_); rintro e w2 ⟨rfl, ⟨nd, rfl⟩⟩)
        go_ret
        exact ⟨rfl, by repeat (first | exact Drawn0.refl _ | apply Drawn0.step)⟩
    · obtain rfl : i = l.length := by omega
      obtain rfl : cnt = -1 := by rw [← CN.out]; exact impl_Forwarded.idx_none l I.out
      go_wp2
      go_ret
      exact ⟨rfl, by repeat (first | exact Drawn0.refl _ | apply Drawn0.step)⟩
set_option maxHeartbeats 1000000 in
theorem impl_Forwarded.contains (A : Option Addr) (c : Nat) (l : List Int) (b : Bool) (w : World) (hr : Kd.C (Kd.int .i64) w A l.length l) (hc : l.length ≤ c) (hsz : l.length ≤ 400) (hb : (!l.all impl_ObjOk.ref) = b) :
    Calls Tryd.prog 84 #[.slice A l.length c, .func (.func 85) #[] #[]] w fun e w' => e = .returned (.bool b) ∧ Drawn0 w w' := by
  subst hb
  rw [← impl_Forwarded.idx_all]
  have N1 := mK (fun W (hW : Kd.C (Kd.int .i64) W A l.length l) => impl_Forwarded.index A c l W hW hc hsz)
  have HR := mK hr
  clear hr
  generalize impl_Forwarded.idx l = cnt at N1 ⊢
  go_enter Tryd.func84, Tryd.ntmps84
  go_wp2_with (go_at_call 120; (refine (N1.out _ HR.out).mono ?_); rintro e w2 ⟨rfl, ⟨nd, rfl⟩⟩)
  go_ret
  exact ⟨rfl, by repeat (first | exact Drawn0.refl _ | apply Drawn0.step)⟩
set_option maxHeartbeats 4000000 in
set_option maxRecDepth 1000000 in
theorem impl_Forwarded.clone (A0 : Option Addr) (c0 : Nat) (l0 : List Int) (w : World) (hr0 : Kd.C (Kd.int .i64) w A0 l0.length l0) (hc0 : l0.length ≤ c0) (c : l0.length < 17592186044416) :
    Calls Tryd.prog 86 #[.slice A0 l0.length c0] w fun e w' => ∃ v0_ : Value, e = .returned (v0_) ∧ Kd.R (Kd.int .i64) 2 w' w.heap.size (fun _ => True) v0_ l0 ∧ Below w.heap.size w w' := by
  have hu28 := Tryd.underlying41
  have HB := mK (Below.refl w.heap.size w)
  have HR := mK hr0
  have LM := mK c
  cases A0 with
  | none =>
    have hz : l0 = [] := by
      rcases Nat.eq_zero_or_pos l0.length with h0 | h0
      · exact List.eq_nil_of_length_eq_zero h0
      · obtain ⟨ad, e, _⟩ := hr0.2.2 h0; cases e
    subst hz
    have EQ : ∀ W, (binOp .eql 41 (.slice none 0 c0) (.slice none 0 0)).run Tryd.prog W = .ok (.bool true) W := fun W => run_eql_slice_nil (P := Tryd.prog) W 41 2 none 0 c0 Tryd.underlying41
    clear hr0
    go_enter Tryd.func86, Tryd.ntmps86
    go_wp2
    go_ret
    exact ⟨_, rfl, Kd.R_nil _ _ _ _ _, HB.out⟩
  | some ad =>
    have EQ : ∀ W, (binOp .eql 41 (.slice (some ad) l0.length c0) (.slice none 0 0)).run Tryd.prog W = .ok (.bool false) W := fun W => run_eql_slice_nil (P := Tryd.prog) W 41 2 (some ad) l0.length c0 Tryd.underlying41
    clear hr0
    go_enter Tryd.func86, Tryd.ntmps86
    go_wp2_with (first | ((with_reducible refine gate_dst (N := 5) rfl ?_); refine Kd.R_lit (Kd.int .i64) _ 2 ?hg (N := 5) ?hd (xs := ([] : List Int)) (inner := []) (ok := fun _ => True) (okp := fun _ => True) ?hr ?hp (fun _ hk => hk) trivial (Below.refl _ _) (Nat.le_refl _) (by simp) ?_; (case hd => rfl); (case hg => rfl); (case hr => first | (go_simp; done) | (go_simp; rfl)); (case hp => exact (Reps.none _ _)); intro v1 w7 ho hb hg_ hnew_; clear hg_ hnew_; have n0_ := mK (Kd.R_lower ho (below_size HB.out)); have n1_ := mK (lT HB.out hb); clear HB; have HO := n0_; have HB := n1_; clear n0_ n1_ hb ho) | ((with_reducible refine gate_dst (N := 7) rfl ?_); refine Kd.R_append_rows (Kd.int .i64) (w0 := w) w.heap.size rfl (.tmp 5) (.tmp 6) 41 2 (.int .i64 0) 8 rfl Tryd.underlying41 info2 rfl (by decide) (by omega) v1 [] l0 _ _ _ (fun _ => True) (fun _ => False) rfl rfl ?aO ?aR (fun _ _ h => h) (fun _ h => h.elim) ?aF ?aB ?aS ?aL ?_; (case aR => exact Kd.C_below HR.out HB.out); (case aB => exact HB.out); (case aF => exact (fun _ _ => trivial)); (case aO => exact HO.out); (case aS => exact below_size HB.out); (case aL => have := LM.out; simp only [List.length_nil]; omega); intro v2 w8 ho hb hg hat; have n0_ := mK ho; have n1_ := mK hb; clear HB HO; have HO := n0_; have HB := n1_; clear n0_ n1_ ho hb hg hat))
    go_ret
    exact ⟨_, rfl, HO.out, HB.out⟩
def impl_Forwarded.ix : List Int → Int → Nat → Int
  | [], _, _ => -1
  | x :: r, v, i => if v = x then (i : Int) else impl_Forwarded.ix r v (i + 1)
theorem impl_Forwarded.ix_bd : ∀ (l : List Int) (v : Int) (i : Nat), impl_Forwarded.ix l v i = -1 ∨ (0 ≤ impl_Forwarded.ix l v i ∧ impl_Forwarded.ix l v i < (i : Int) + l.length)
  | [], _, _ => Or.inl rfl
  | x :: r, v, i => by
    rw [impl_Forwarded.ix]
    by_cases c : v = x
    · rw [if_pos c]; right; rw [List.length_cons]; omega
    · rw [if_neg c, List.length_cons]
      rcases impl_Forwarded.ix_bd r v (i + 1) with h | h
      · left; exact h
      · right; omega
theorem impl_Forwarded.ix_l0 (l : List Int) (v : Int) (hl : l.length ≤ 400) : ∀ (n i : Nat), i + n = l.length → slices_Index_int64_int64.l0 (n + 1) l v (l.length : Int) (i : Int) = some (impl_Forwarded.ix (l.drop i) v i)
  | 0, i, h => by
    obtain rfl : i = l.length := by omega
    simp only [slices_Index_int64_int64.l0]
    rw [if_neg (by omega), List.drop_length]; rfl
  | n + 1, i, h => by
    have hi : i < l.length := by omega
    have ih := impl_Forwarded.ix_l0 l v hl n (i + 1) (by omega)
    rw [slices_Index_int64_int64.l0, if_pos (by omega), if_pos (by omega), if_pos (by omega), impl_Forwarded.rd_at l i hi, List.drop_eq_getElem_cons hi, impl_Forwarded.ix]
    by_cases c : v = l[i]
    · rw [if_pos c, if_pos c]
    · rw [if_neg c, if_neg c, ← ih]
      congr 1
      unfold wrap64; omega
theorem impl_Forwarded.ix_f (l : List Int) (v : Int) (hl : l.length ≤ 400) : slices_Index_int64_int64.f (l.length + 1) l v = some (impl_Forwarded.ix l v 0) := impl_Forwarded.ix_l0 l v hl l.length 0 (by omega)
def impl_Forwarded.one (s : ByteArray) (vs f t : List Int) (i : Nat) : Int := if 0 ≤ impl_Forwarded.ix f (rd vs (i : Int)) 0 ∧ bt s (i : Int) = 114 then rd t (impl_Forwarded.ix f (rd vs (i : Int)) 0) else rd vs (i : Int)
def impl_Forwarded.ok (l0 : List ByteArray) (t : Int) (vs f u : List Int) : Bool := impl_ObjOk.g l0 t vs && (decide ((f.length : Int) = (u.length : Int)) && (decide (u.length ≤ 400) && u.all impl_ObjOk.ref))
def impl_Forwarded.f (l0 : List ByteArray) (a1_0 : Int) (l1_1 l2 l3 : List Int) : Option (Int × List Int) := some (if impl_Forwarded.ok l0 a1_0 l1_1 l2 l3 = true then (a1_0, (List.range l1_1.length).map (impl_Forwarded.one (rdOf ByteArray.empty l0 a1_0) l1_1 l2 l3)) else (0, []))
theorem impl_Forwarded.obj {l : List ByteArray} {t : Int} {vs : List Int} (h : impl_ObjOk.g l t vs = true) : 0 ≤ t ∧ t < (l.length : Int) ∧ vs.length = (rdOf ByteArray.empty l t).size ∧ vs.length ≤ 23 := by
  unfold impl_ObjOk.g impl_ObjOk.is impl_ObjOk.vals at h
  rw [Bool.and_eq_true, Bool.and_eq_true, Bool.and_eq_true, decide_eq_true_eq, decide_eq_true_eq] at h
  obtain ⟨h1, h2, h3, _⟩ := h
  have h23 : (rdOf ByteArray.empty l t).size ≤ 23 := (impl_ObjOk.tys h1).2 _ (by unfold rdOf; rw [List.getD_eq_getElem?_getD, List.getElem?_eq_getElem (by omega)]; exact List.getElem_mem _)
  exact ⟨h2.1, by omega, by omega, by omega⟩
set_option maxHeartbeats 8000000 in
set_option maxRecDepth 1000000 in
theorem impl_Forwarded.calls (A0 : Option Addr) (c0 : Nat) (l0 : List ByteArray) (a1_0 : Int) (A1_1 : Option Addr) (c1_1 : Nat) (l1_1 : List Int) (A2 : Option Addr) (c2 : Nat) (l2 : List Int) (A3 : Option Addr) (c3 : Nat) (l3 : List Int) (r1 : Int) (r2 : List Int) (w : World) (hr0 : Kd.C Kd.string w A0 l0.length l0) (hc0 : l0.length ≤ c0) (hr1_1 : Kd.C (Kd.int .i64) w A1_1 l1_1.length l1_1) (hc1_1 : l1_1.length ≤ c1_1) (hr2 : Kd.C (Kd.int .i64) w A2 l2.length l2) (hc2 : l2.length ≤ c2) (hr3 : Kd.C (Kd.int .i64) w A3 l3.length l3) (hc3 : l3.length ≤ c3) (h : impl_Forwarded.f l0 a1_0 l1_1 l2 l3 = some (r1, r2)) :
    Calls Tryd.prog 41 #[.slice A0 l0.length c0, .agg #[.int .i64 a1_0, .slice A1_1 l1_1.length c1_1], .slice A2 l2.length c2, .slice A3 l3.length c3] w fun e w' => ∃ v1_ : Value, e = .returned (.agg #[.int .i64 r1, v1_]) ∧ Kd.R (Kd.int .i64) 2 w' w.heap.size (fun _ => True) v1_ r2 ∧ Below w.heap.size w w' := by
 have huO := Tryd.underlying46; unfold impl_Forwarded.f at h; replace h := Option.some.inj h; have HB := mK (Below.refl w.heap.size w); have HR := mK hr0; have HV := mK hr1_1; have HF := mK hr2; have HT := mK hr3; have NO := mK (fun b W (hW : Kd.C Kd.string W A0 l0.length l0) (hV : Kd.C (Kd.int .i64) W A1_1 l1_1.length l1_1) h => impl_ObjOk.calls A0 c0 l0 a1_0 A1_1 c1_1 l1_1 b W hW hc0 hV hc1_1 h); clear hr0 hr1_1 hr2 hr3; by_cases d1 : impl_ObjOk.g l0 a1_0 l1_1 = true
 ·have O1 := mK (show impl_ObjOk.f l0 a1_0 l1_1 = some true by unfold impl_ObjOk.f; rw [d1]); by_cases d2 : (l2.length : Int) = (l3.length : Int)
  ·have c2b0 : ((l2.length : Int) == (l3.length : Int)) = true := beq_iff_eq.mpr d2; have c2b1 : ((l2.length : Int) != (l3.length : Int)) = false := bne_eq_false_iff_eq.mpr d2; by_cases d3 : l3.length ≤ 400
   ·have c3b0 : decide ((400 : Int) < (l3.length : Int)) = false := decide_eq_false (by omega); by_cases d4 : l3.all impl_ObjOk.ref = true
    ·have NC := mK (fun W (hW : Kd.C (Kd.int .i64) W A3 l3.length l3) => impl_Forwarded.contains A3 c3 l3 false W hW hc3 d3 (by rw [d4]; rfl)); rw [if_pos (show impl_Forwarded.ok l0 a1_0 l1_1 l2 l3 = true by unfold impl_Forwarded.ok; rw [d1, d4, decide_eq_true d2, decide_eq_true d3]; rfl)] at h; obtain ⟨rfl, rfl⟩ := Prod.mk.inj h; obtain ⟨t0, t1, ev, e23⟩ := impl_Forwarded.obj d1; obtain ⟨ts, ets, htx⟩ := Kd.at_string HR.out a1_0 t0 t1; cases ets; generalize hs : rdOf ByteArray.empty l0 a1_0 = s at htx ev ⊢; clear hs h d1 d4; have IX := mK (fun v W (hW : Kd.C (Kd.int .i64) W A2 l2.length l2) => slices_Index_int64_int64.calls (l2.length + 1) A2 c2 l2 v _ W hW hc2 (impl_Forwarded.ix_f l2 v (by omega))); have BD := mK (fun v => impl_Forwarded.ix_bd l2 v 0); have EV := mK ev; have EL := mK d2; have E23 := mK e23; clear ev d2 d3 e23; have p0 : (0 ≤ a1_0) = True := eq_true t0; have q0 : (a1_0 < (l0.length : Int)) = True := eq_true t1; go_enter Tryd.func41, Tryd.ntmps41; go_wp2_with (first | ((with_reducible refine gate_dst (N := 5) rfl ?_); refine box_event ?hg (N := 5) ?hd (cs := #[.int .i64 a1_0, .slice A1_1 l1_1.length c1_1]) (t := 46) ?hr ?_; (case hd => rfl); (case hg => rfl); (case hr => first | (go_simp; done) | (go_simp; rfl)); intro gd hg w4 hbox hb; have n0_ := mK (lT HB.out hb); have n1_ := mK hbox; have n3_ := mK (by rw [hg]; exact (below_size HB.out) : w.heap.size ≤ gd); clear HB; have HB := n0_; have BK := n1_; have GE := n3_; clear n0_ n1_ n3_ hb hbox hg) | ((with_reducible refine gate_dst (N := 8) rfl ?_); refine box_event ?hg (N := 8) ?hd (cs := #[.int .i64 0, .slice none 0 0]) (t := 46) ?hr ?_; (case hd => rfl); (case hg => rfl); (case hr => first | (go_simp; done) | (go_simp; rfl)); intro gr hg w5 hbox hb; have n0_ := mK (lT HB.out hb); have n1_ := mK hbox; have n2_ := mK (bB BK.out hb); have n3_ := mK (by rw [hg]; exact (below_size HB.out) : w.heap.size ≤ gr); have n4_ := mK (by rw [hg]; exact Nat.ne_of_lt (blk_lt BK.out) : gd ≠ gr); clear HB BK; have HB := n0_; have BKr := n1_; have BK := n2_; have GEr := n3_; have NEr := n4_; clear n0_ n1_ n2_ n3_ n4_ hb hbox hg; have hcz0 : w5.cell? ⟨gd, 0, none⟩ = some (.int .i64 a1_0) := (bC BK.out 0).trans rfl; have hcz1 : w5.cell? ⟨gd, 1, none⟩ = some (.slice A1_1 l1_1.length c1_1) := (bC BK.out 1).trans rfl) | (go_at_call 37; (refine (NO.out _ _ (Kd.C_below HR.out HB.out) (Kd.C_below HV.out HB.out) O1.out).mono ?_); rintro e w6 ⟨rfl, hb⟩; have n0_ := mK (lT HB.out hb); have n1_ := mK (bB BKr.out hb); have n2_ := mK (bB BK.out hb); clear HB BKr BK hcz0 hcz1; have HB := n0_; have BKr := n1_; have BK := n2_; clear n0_ n1_ n2_ hb) | (go_at_call 84; (refine (NC.out _ (Kd.C_below HT.out HB.out)).mono ?_); rintro e w7 ⟨rfl, hd⟩; have hb := hd.below; have n0_ := mK (lT HB.out hb); have n1_ := mK (bB BKr.out hb); have n2_ := mK (bB BK.out hb); clear HB BKr BK; have HB := n0_; have BKr := n1_; have BK := n2_; clear n0_ n1_ n2_ hb hd)); have n0_ := mK (bD BK.out); have n1_ := mK (bD BKr.out); have n2_ := mK (lD HB.out); clear BK BKr HB; have BK := n0_; have BKr := n1_; have HB := n2_; clear n0_ n1_ n2_; refine start_ (n := 8) (S := fun w' => w'.cell? ⟨gd, 0, none⟩ = some (.int .i64 a1_0) ∧ w'.cell? ⟨gd, 1, none⟩ = some (.slice A1_1 l1_1.length c1_1)) (ds := []) (tf_ 0 8) (by kernel_rfl) rfl rfl ⟨(bC BK.out 0).trans rfl, (bC BK.out 1).trans rfl⟩ (fun hHeld => ?_); generalize w7.drew = w8 at BK BKr HB hHeld ⊢; refine pure_ (i := 0) (N := some 34) (v := ?_) (a' := ?_) (tf_ 1 7) rfl rfl (by kernel_rfl) (fun _ _ _ h => h) (Or.inl ⟨by rfl, ?_⟩) ?_ ?_; rotate_left; (·intro w'; go_simp; with_reducible rfl); rotate_left; (·simp only [Act.put, sI_, s0_, sS_]; rfl); refine pure_ (i := 2) (N := some 36) (v := ?_) (a' := ?_) #[true, false, true, false, false, false, false, false] rfl rfl (by kernel_rfl) (fun _ _ _ h => h) (Or.inl ⟨by rfl, ?_⟩) ?_ ?_; rotate_left; (·intro w'; go_simp; with_reducible rfl); rotate_left; (·simp only [Act.put, sI_, s0_, sS_]; rfl); refine take_ (i := 1) (N := some 35) (v := ?_) (a' := ?_) (tf_ 3 5) rfl rfl (by kernel_rfl) (fun _ _ _ h => h) (Or.inl ⟨by rfl, ?_⟩) hHeld ?_ ?_; rotate_left; (·rintro w' ⟨s0, s1⟩; go_simp; with_reducible rfl); rotate_left; (·simp only [Act.put, sI_, s0_, sS_]; rfl); refine take_ (i := 3) (N := some 37) (v := ?_) (a' := ?_) (tf_ 4 4) rfl rfl (by kernel_rfl) (fun _ _ _ h => h) (Or.inl ⟨by rfl, ?_⟩) hHeld ?_ ?_; rotate_left; (·rintro w' ⟨s0, s1⟩; go_simp; with_reducible rfl); rotate_left; (·simp only [Act.put, sI_, s0_, sS_]; rfl); refine join_ (σ := Nat × Value) 1 (tf_ 7 1) (fun s_ => [(38, s_.2), (39, .agg #[.int .i64 a1_0, s_.2]), (9, .pointer (some ⟨s_.1, 0, none⟩))]) (fun s_ w' => w'.heap[s_.1]? = some (.cells #[.int .i64 0, .slice none 0 0] 46 (0, 0)) ∧ Kd.R (Kd.int .i64) 2 w' w.heap.size (fun _ => True) s_.2 l1_1 ∧ w'.heap[gd]? = some (.cells #[.int .i64 a1_0, .slice A1_1 l1_1.length c1_1] 46 (0, 0)) ∧ w'.heap[gr]? = some (.cells #[.int .i64 0, .slice none 0 0] 46 (0, 0)) ∧ Below w.heap.size w w' ∧ w.heap.size ≤ s_.1 ∧ gd ≠ s_.1 ∧ gr ≠ s_.1) ?_ ?_; rotate_left
     ·intro hJ; refine two_ (i := 4) (j := 6) (Ni := some 38) (Nj := some 9) (tf_ 5 3) #[true, true, true, true, false, false, true, false] rfl rfl rfl rfl (by kernel_rfl) (by decide) (by decide) (fun K hK => ?_) (fun K hK => ?_)
      ·refine goes_ Tryd.func86 (by kernel_rfl) rfl #[.slice A1_1 l1_1.length c1_1] (by rfl) rfl rfl (by (try simp only [List.map_toArray, List.map_cons, List.map_nil]); first | done | rfl) ?_; refine (impl_Forwarded.clone A1_1 c1_1 l1_1 _ (Kd.C_below HV.out HB.out) hc1_1 (by have := E23.out; omega)).mono ?_; rintro e w9 ⟨v9, rfl, ho, hb⟩; refine ⟨_, rfl, ?_⟩; have n0_ := mK (Kd.R_lower ho (below_size HB.out)); have n1_ := mK (bB BK.out hb); have n2_ := mK (bB BKr.out hb); have n3_ := mK (lT HB.out hb); clear BK BKr HB hb ho; have HO := n0_; have BK := n1_; have BKr := n2_; have HB := n3_; clear n0_ n1_ n2_ n3_; obtain ⟨Ao, co, eo⟩ := Kd.R_slice HO.out; subst eo; refine hK.out _ _ ⟨(bC BK.out 0).trans rfl, (bC BK.out 1).trans rfl⟩ (fun hHeld => ?_); clear hK K; refine norm_ (a' := ?_) ?_ ?_; rotate_left; (·show Act.put _ (some 38) _ = _; simp only [Act.put, sI_, s0_, sS_]; rfl); refine pure_ (i := 5) (N := some 39) (v := ?_) (a' := ?_) (tf_ 6 2) rfl rfl (by kernel_rfl) (fun _ _ _ h => h) (Or.inl ⟨by rfl, ?_⟩) ?_ ?_; rotate_left; (·intro w'; go_simp; with_reducible rfl); rotate_left; (·simp only [Act.put, sI_, s0_, sS_]; rfl); refine one_ (i := 6) (N := some 9) (tf_ 7 1) rfl rfl (by kernel_rfl) (by decide) (fun K hK => ?_); refine event_step (v := .pointer (some ⟨w9.heap.size, 0, none⟩)) (w1 := w9.alloc (.cells #[.int .i64 0, .slice none 0 0] 46 (0, 0))) (by rfl) (by first | (go_simp; done) | (go_simp; rfl)) ?_; have n1_ := mK (bA BK.out (.cells #[.int .i64 0, .slice none 0 0] 46 (0, 0))); have n2_ := mK (bA BKr.out (.cells #[.int .i64 0, .slice none 0 0] 46 (0, 0))); refine hK.out _ _ ⟨(bC n1_.out 0).trans rfl, (bC n1_.out 1).trans rfl⟩ (fun hHeld => ?_); exact norm_ (by first | (simp only [putAll, Act.put, sI_, s0_, sS_]; done) | (simp only [putAll, Act.put, sI_, s0_, sS_]; rfl)) (hJ (w9.heap.size, .slice Ao l1_1.length co) _ ⟨blk_new w9 _, Kd.R_alloc HO.out _, n1_.out, n2_.out, lA HB.out _, below_size HB.out, Nat.ne_of_lt (blk_lt BK.out), Nat.ne_of_lt (blk_lt BKr.out)⟩)
      ·refine event_step (v := .pointer (some ⟨w8.heap.size, 0, none⟩)) (w1 := w8.alloc (.cells #[.int .i64 0, .slice none 0 0] 46 (0, 0))) (by rfl) (by first | (go_simp; done) | (go_simp; rfl)) ?_; have n0_ := mK (blk_new w8 (.cells #[.int .i64 0, .slice none 0 0] 46 (0, 0))); have n1_ := mK (bA BK.out (.cells #[.int .i64 0, .slice none 0 0] 46 (0, 0))); have n2_ := mK (bA BKr.out (.cells #[.int .i64 0, .slice none 0 0] 46 (0, 0))); have n3_ := mK (lA HB.out (.cells #[.int .i64 0, .slice none 0 0] 46 (0, 0))); have n4_ := mK (below_size HB.out); have n5_ := mK (Nat.ne_of_lt (blk_lt BK.out)); have n6_ := mK (Nat.ne_of_lt (blk_lt BKr.out)); refine hK.out _ _ ⟨(bC n1_.out 0).trans rfl, (bC n1_.out 1).trans rfl⟩ (fun hHeld => ?_); clear hK K BK BKr HB; generalize w8.alloc (.cells #[.int .i64 0, .slice none 0 0] 46 (0, 0)) = w9 at *; generalize w8.heap.size = gO at *; have BKo := n0_; have BK := n1_; have BKr := n2_; have HB := n3_; clear n0_ n1_ n2_ n3_; refine norm_ (a' := ?_) ?_ ?_; rotate_left; (·show Act.put _ (some 9) _ = _; simp only [Act.put, sI_, s0_, sS_]; rfl); refine one_ (i := 4) (N := some 38) #[true, true, true, true, true, false, true, false] rfl rfl (by kernel_rfl) (by decide) (fun K hK => ?_); refine goes_ Tryd.func86 (by kernel_rfl) rfl #[.slice A1_1 l1_1.length c1_1] (by rfl) rfl rfl (by (try simp only [List.map_toArray, List.map_cons, List.map_nil]); first | done | rfl) ?_; refine (impl_Forwarded.clone A1_1 c1_1 l1_1 _ (Kd.C_below HV.out HB.out) hc1_1 (by have := E23.out; omega)).mono ?_; rintro e w10 ⟨v9, rfl, ho, hb⟩; refine ⟨_, rfl, ?_⟩; have m0_ := mK (Kd.R_lower ho (below_size HB.out)); have m1_ := mK (bB BK.out hb); have m2_ := mK (bB BKr.out hb); have m3_ := mK (lT HB.out hb); have m4_ := mK (bB BKo.out hb); obtain ⟨Ao, co, eo⟩ := Kd.R_slice m0_.out; subst eo; refine hK.out _ _ ⟨(bC m1_.out 0).trans rfl, (bC m1_.out 1).trans rfl⟩ (fun hHeld => ?_); clear hK K; refine norm_ (a' := ?_) ?_ ?_; rotate_left; (·show Act.put _ (some 38) _ = _; simp only [Act.put, sI_, s0_, sS_]; rfl); refine pure_ (i := 5) (N := some 39) (v := ?_) (a' := ?_) (tf_ 7 1) rfl rfl (by kernel_rfl) (fun _ _ _ h => h) (Or.inl ⟨by rfl, ?_⟩) ?_ ?_; rotate_left; (·intro w'; go_simp; with_reducible rfl); rotate_left; (·simp only [Act.put, sI_, s0_, sS_]; rfl); exact norm_ (by first | (simp only [putAll, Act.put, sI_, s0_, sS_]; done) | (simp only [putAll, Act.put, sI_, s0_, sS_]; rfl)) (hJ (gO, .slice Ao l1_1.length co) _ ⟨m4_.out, m0_.out, m1_.out, m2_.out, m3_.out, n4_.out, n5_.out, n6_.out⟩)
     rintro ⟨gO, vO⟩ w9 ⟨f1, f2, f3, f4, f5, f6, f7, f8⟩; have BKo := mK f1; have HO := mK f2; have BK := mK f3; have BKr := mK f4; have HB := mK f5; have GEo := mK f6; have NEo := mK f7; have NEro := mK f8; clear f1 f2 f3 f4 f5 f6 f7 f8; obtain ⟨Ao, co, eo⟩ := Kd.R_slice HO.out; dsimp only at eo HO BKo NEo NEro GEo; subst eo; have hco0 : w9.cell? ⟨gO, 0, none⟩ = some (.int .i64 0) := (bC BKo.out 0).trans rfl; have hco1 : w9.cell? ⟨gO, 1, none⟩ = some (.slice none 0 0) := (bC BKo.out 1).trans rfl; have hfo0 := bF BKo.out 0; have hfo1 := bF BKo.out 1; refine norm_ (a' := ?_) ?_ ?_; rotate_left; (·simp only [putAll, Act.put, sI_, s0_, sS_]; rfl); refine one_ (i := 7) (N := none) (tf_ 8 0) rfl rfl (by kernel_rfl) (by decide) (fun K hK => ?_); refine skip_ (w1 := (w9.setCell ⟨gO, 0, none⟩ (.int .i64 a1_0)).setCell ⟨gO, 1, none⟩ (.slice Ao l1_1.length co)) (by rfl) rfl (by first | (go_simp; done) | (go_simp; rfl)) ?_; have m0_ := mK (blk_far (p := ⟨gO, 1, none⟩) (blk_far (p := ⟨gO, 0, none⟩) BK.out NEo.out (.int .i64 a1_0)) NEo.out (.slice Ao l1_1.length co)); have m1_ := mK (blk_far (p := ⟨gO, 1, none⟩) (blk_far (p := ⟨gO, 0, none⟩) BKr.out NEro.out (.int .i64 a1_0)) NEro.out (.slice Ao l1_1.length co)); have m2_ := mK (blk_put (cs := #[.int .i64 a1_0, .slice none 0 0]) (blk_put (cs := #[.int .i64 0, .slice none 0 0]) BKo.out 0 (.int .i64 a1_0) rfl) 1 (.slice Ao l1_1.length co) rfl); have m3_ := mK (Kd.R_far (p := ⟨gO, 1, none⟩) (Kd.R_far (p := ⟨gO, 0, none⟩) (Kd.R_types HO.out BKo.out (by decide)) (fun _ hk => hk.2) (.int .i64 a1_0)) (fun _ hk => hk.2) (.slice Ao l1_1.length co)); have m4_ := mK (lS (j := 1) (v := .slice Ao l1_1.length co) (lS (j := 0) (v := .int .i64 a1_0) HB.out GEo.out) GEo.out); refine hK.out _ _ ⟨(bC m0_.out 0).trans rfl, (bC m0_.out 1).trans rfl⟩ (fun hHeld2 => ?_); clear hK K BK BKr BKo HO HB hco0 hco1 hfo0 hfo1 hHeld2; refine done_ (by kernel_rfl) ?_; generalize (w9.setCell ⟨gO, 0, none⟩ (.int .i64 a1_0)).setCell ⟨gO, 1, none⟩ (.slice Ao l1_1.length co) = w10 at *; have BK := m0_; have BKr := m1_; have BKo := m2_; have HO := m3_; have HB := m4_; clear m0_ m1_ m2_ m3_ m4_; have hcz0 : w10.cell? ⟨gd, 0, none⟩ = some (.int .i64 a1_0) := (bC BK.out 0).trans rfl; have hcz1 : w10.cell? ⟨gd, 1, none⟩ = some (.slice A1_1 l1_1.length c1_1) := (bC BK.out 1).trans rfl; go_wp2; go_loopg [43] l1_1.length (fun kx s43 wr => ∃ (i : Nat) (xs : List Int), s43 = .int .i64 i ∧ i ≤ l1_1.length ∧ l1_1.length - i ≤ kx ∧ Aside0 (xs.length = l1_1.length) ∧ Aside0 (∀ j : Nat, j < l1_1.length → rd xs (j : Int) = if j < i then impl_Forwarded.one s l1_1 l2 l3 j else rd l1_1 (j : Int)) ∧ Aside0 (Kd.R (Kd.int .i64) 2 wr w.heap.size (fun k => True ∧ k ≠ gO) (.slice Ao l1_1.length co) xs) ∧ Aside0 (wr.heap[gd]? = some (.cells #[.int .i64 a1_0, .slice A1_1 l1_1.length c1_1] 46 (0, 0))) ∧ Aside0 (wr.heap[gr]? = some (.cells #[.int .i64 0, .slice none 0 0] 46 (0, 0))) ∧ Aside0 (wr.heap[gO]? = some (.cells #[.int .i64 a1_0, .slice Ao l1_1.length co] 46 (0, 0))) ∧ Aside0 (Below w.heap.size w wr)); (case atStart => exact ⟨0, l1_1, rfl, Nat.zero_le _, by omega, ⟨rfl⟩, ⟨fun j hj => by rw [if_neg (Nat.not_lt_zero _)]⟩, HO, BK, BKr, BKo, HB⟩)
     case round =>
      clear HO BK BKr BKo HB hcz0 hcz1 hHeld; obtain ⟨i, xs, rfl, hin, hg, XL, XS, HO, BK, BKr, BKo, HB⟩ := hrel; by_cases hlt : i < l1_1.length
      ·obtain ⟨vd, evd, hv⟩ := Kd.at_int HV.out (i : Int) (by omega) (by omega); cases evd; replace hv := (HB.out.cell (World.block_lt_of_cell? w _ hv)).trans hv; simp only [Int.toNat_natCast] at hv; have htw := (HB.out.cell (World.block_lt_of_cell? w _ htx)).trans htx; have hcz0 : wr.cell? ⟨gd, 0, none⟩ = some (.int .i64 a1_0) := (bC BK.out 0).trans rfl; have hcz1 : wr.cell? ⟨gd, 1, none⟩ = some (.slice (some vd) l1_1.length c1_1) := (bC BK.out 1).trans rfl; have p1 : (0 ≤ (i : Int)) = True := eq_true (by omega); have q1 : ((i : Int) < (s.size : Int)) = True := eq_true (by have := EV.out; omega); have q2 : ((i : Int) < (l1_1.length : Int)) = True := eq_true (by omega); (have hx1 : ∀ h : i < s.size, ((s[i]'h).toNat : Int) = bt s (i : Int) := fun h => by have := bt_at s (i : Int) (by rw [Int.toNat_natCast]; exact h); simpa only [Int.toNat_natCast] using this); have hx2 := bt_at s (i : Int); generalize hy : rd l1_1 (i : Int) = x at hv; have Y := mK hy; clear hy; have IX1 := mK (IX.out x); have BD1 := BD.out x; generalize hq : impl_Forwarded.ix l2 x 0 = q at IX1 BD1; have QQ := mK hq; clear hq; by_cases cq : 0 ≤ q
       ·have cqb : decide (0 ≤ q) = true := decide_eq_true cq; have cqt : (0 ≤ q) = True := eq_true cq; (have q3 : q < (l3.length : Int) := by have := EL.out; omega); have q3t : (q < (l3.length : Int)) = True := eq_true q3; by_cases ck : bt s (i : Int) = 114
        ·have ckb0 : (bt s (i : Int) == 114) = true := beq_iff_eq.mpr ck; have ckb1 : (bt s (i : Int) != 114) = false := bne_eq_false_iff_eq.mpr ck; have ON := mK (show impl_Forwarded.one s l1_1 l2 l3 i = rd l3 q by unfold impl_Forwarded.one; rw [Y.out, QQ.out, if_pos ⟨cq, ck⟩]); obtain ⟨td, etd, ht⟩ := Kd.at_int HT.out q cq q3; cases etd; replace ht := (HB.out.cell (World.block_lt_of_cell? w _ ht)).trans ht; generalize rd l3 q = y at ht ON; obtain ⟨go, cap, eo, gb, gl, cells, hgo⟩ := Kd.R_form HO.out (by have := XL.out; omega); obtain ⟨rfl, -, rfl⟩ := Value.slice.inj eo; have hne1 := mK (Kd.R_ne HO.out BK.out (by decide)); have hne2 := mK (Kd.R_ne HO.out BKr.out (by decide)); have hne3 := mK (Kd.R_ne HO.out BKo.out (by decide)); obtain ⟨hxc, hxf⟩ := Kd.R_celln (d := (0 : Int)) HO.out (i : Int) (by omega) (by have := XL.out; omega); simp only [Int.toNat_natCast] at hxc hxf; have hco0 : wr.cell? ⟨gO, 0, none⟩ = some (.int .i64 a1_0) := (bC BKo.out 0).trans rfl; have hco1 : wr.cell? ⟨gO, 1, none⟩ = some (.slice (some ⟨go, 0, none⟩) l1_1.length co) := (bC BKo.out 1).trans rfl; clear cq ck BD1 q3 eo gl hgo; go_wp2_with (go_at_call 87; (refine (IX1.out _ (Kd.C_below HF.out HB.out)).mono ?_); rintro e w' ⟨rfl, ⟨nd, rfl⟩⟩); go_region
         all_goals
          go_wp2; go_roundg (l1_1.length - (i + 1)); (case measure => omega)
          case rel =>
           have r1 := Kd.R_putn (Kd.R_drew (Kd.R_drewN HO.out nd)) (i : Int) y; have b1 := Below.setCell (p := ⟨go, i, none⟩) (lD (lN HB.out nd)) gb (.int .i64 y); (have e1 : go ≠ gd := fun e => hne1.out (by rw [e]; rfl)); (have e2 : go ≠ gr := fun e => hne2.out (by rw [e]; rfl)); (have e3 : go ≠ gO := fun e => hne3.out (by rw [e]; rfl)); refine ⟨i + 1, xs.set i y, by rw [show wrap64 ((i : Int) + 1) = ((i + 1 : Nat) : Int) by have := E23.out; unfold wrap64; omega], by omega, Nat.le_refl _, ⟨by rw [List.length_set]; exact XL.out⟩, ⟨fun j hj => ?_⟩, ⟨r1⟩, ⟨blk_far (p := ⟨go, i, none⟩) (bD (bN BK.out nd)) e1.symm _⟩, ⟨blk_far (p := ⟨go, i, none⟩) (bD (bN BKr.out nd)) e2.symm _⟩, ⟨blk_far (p := ⟨go, i, none⟩) (bD (bN BKo.out nd)) e3.symm _⟩, ⟨b1⟩⟩; have hx := XS.out j hj; have xl := XL.out; by_cases e : j = i; (·subst e; rw [if_pos (by omega), ON.out, impl_Forwarded.rd_at _ _ (by rw [List.length_set]; omega), List.getElem_set_self]); (·rw [impl_Forwarded.rd_at _ _ (by omega)] at hx; rw [impl_Forwarded.rd_at _ _ (by rw [List.length_set]; omega), List.getElem_set_ne (by omega), hx]; by_cases f : j < i; (·rw [if_pos f, if_pos (by omega)]); (·rw [if_neg f, if_neg (by omega)]))
        ·have ckb0 : (bt s (i : Int) == 114) = false := beq_eq_false_iff_ne.mpr ck; have ckb1 : (bt s (i : Int) != 114) = true := bne_iff_ne.mpr ck; have ON := mK (show impl_Forwarded.one s l1_1 l2 l3 i = rd l1_1 (i : Int) by unfold impl_Forwarded.one; rw [if_neg (fun h => ck h.2)]); clear cq ck BD1 q3; go_wp2_with (go_at_call 87; (refine (IX1.out _ (Kd.C_below HF.out HB.out)).mono ?_); rintro e w' ⟨rfl, ⟨nd, rfl⟩⟩); go_roundg (l1_1.length - (i + 1)); (case measure => omega); (case rel => refine ⟨i + 1, xs, by rw [show wrap64 ((i : Int) + 1) = ((i + 1 : Nat) : Int) by have := E23.out; unfold wrap64; omega], by omega, Nat.le_refl _, XL, ⟨fun j hj => ?_⟩, ⟨Kd.R_drewN HO.out nd⟩, ⟨bN BK.out nd⟩, ⟨bN BKr.out nd⟩, ⟨bN BKo.out nd⟩, ⟨lN HB.out nd⟩⟩; rw [XS.out j hj]; by_cases f : j < i; (·rw [if_pos f, if_pos (by omega)]); (·rw [if_neg f]; by_cases e : j = i; (·subst e; rw [if_pos (by omega), ON.out]); (·rw [if_neg (by omega)])))
       ·have cqb : decide (0 ≤ q) = false := decide_eq_false cq; have ON := mK (show impl_Forwarded.one s l1_1 l2 l3 i = rd l1_1 (i : Int) by unfold impl_Forwarded.one; rw [Y.out, QQ.out, if_neg (fun h => cq h.1)]); clear cq BD1; go_wp2_with (go_at_call 87; (refine (IX1.out _ (Kd.C_below HF.out HB.out)).mono ?_); rintro e w' ⟨rfl, ⟨nd, rfl⟩⟩); go_roundg (l1_1.length - (i + 1)); (case measure => omega); (case rel => refine ⟨i + 1, xs, by rw [show wrap64 ((i : Int) + 1) = ((i + 1 : Nat) : Int) by have := E23.out; unfold wrap64; omega], by omega, Nat.le_refl _, XL, ⟨fun j hj => ?_⟩, ⟨Kd.R_drewN HO.out nd⟩, ⟨bN BK.out nd⟩, ⟨bN BKr.out nd⟩, ⟨bN BKo.out nd⟩, ⟨lN HB.out nd⟩⟩; rw [XS.out j hj]; by_cases f : j < i; (·rw [if_pos f, if_pos (by omega)]); (·rw [if_neg f]; by_cases e : j = i; (·subst e; rw [if_pos (by omega), ON.out]); (·rw [if_neg (by omega)])))
      ·(obtain rfl : i = l1_1.length := by omega)
       have hx : xs = (List.range l1_1.length).map (impl_Forwarded.one s l1_1 l2 l3) := by
         refine List.ext_getElem (by rw [List.length_map, List.length_range]; exact XL.out) (fun j h1 h2 => ?_)
         have xl := XL.out
         have := XS.out j (by omega)
         rw [impl_Forwarded.rd_at _ _ h1, if_pos (by omega)] at this
         rw [this, List.getElem_map, List.getElem_range]
       have XX := mK hx; clear hx; have hco0 : wr.cell? ⟨gO, 0, none⟩ = some (.int .i64 a1_0) := (bC BKo.out 0).trans rfl; have hco1 : wr.cell? ⟨gO, 1, none⟩ = some (.slice Ao l1_1.length co) := (bC BKo.out 1).trans rfl; have hcr0 : wr.cell? ⟨gr, 0, none⟩ = some (.int .i64 0) := (bC BKr.out 0).trans rfl; have hcr1 : wr.cell? ⟨gr, 1, none⟩ = some (.slice none 0 0) := (bC BKr.out 1).trans rfl; have hfr0 := bF BKr.out 0; have hfr1 := bF BKr.out 1; go_wp2; refine bodyPost_ret (results_cell_row rfl _ _ gr 46 #[.int .i64 a1_0, .slice Ao l1_1.length co] (0, 0) _ rfl (by refine blk_put (cs := #[.int .i64 a1_0, .slice none 0 0]) ?_ 1 _ rfl; refine blk_put (cs := #[.int .i64 0, .slice none 0 0]) ?_ 0 _ rfl; exact BKr.out) Tryd.underlying46 rfl (by kernel_rfl)) rfl ?_; refine ⟨_, rfl, XX.out ▸ Kd.R_mono (Kd.R_far (p := ⟨gr, 1, none⟩) (Kd.R_far (p := ⟨gr, 0, none⟩) (Kd.R_types HO.out BKr.out (by decide)) (fun _ hk => hk.2) _) (fun _ hk => hk.2) _) (fun _ _ => trivial), lS (lS HB.out GEr.out) GEr.out⟩
    ·have NC := mK (fun W (hW : Kd.C (Kd.int .i64) W A3 l3.length l3) => impl_Forwarded.contains A3 c3 l3 true W hW hc3 d3 (by rw [Bool.eq_false_iff.2 d4]; rfl)); rw [if_neg (show ¬ impl_Forwarded.ok l0 a1_0 l1_1 l2 l3 = true by unfold impl_Forwarded.ok; rw [Bool.eq_false_iff.2 d4]; simp)] at h; obtain ⟨rfl, rfl⟩ := Prod.mk.inj h; clear h d1; (try clear d2); (try clear d3); (try clear d4); go_enter Tryd.func41, Tryd.ntmps41; go_wp2_with (first | ((with_reducible refine gate_dst (N := 5) rfl ?_); refine box_event ?hg (N := 5) ?hd (cs := #[.int .i64 a1_0, .slice A1_1 l1_1.length c1_1]) (t := 46) ?hr ?_; (case hd => rfl); (case hg => rfl); (case hr => first | (go_simp; done) | (go_simp; rfl)); intro gd hg w4 hbox hb; have n0_ := mK (lT HB.out hb); have n1_ := mK hbox; have n3_ := mK (by rw [hg]; exact (below_size HB.out) : w.heap.size ≤ gd); clear HB; have HB := n0_; have BK := n1_; have GE := n3_; clear n0_ n1_ n3_ hb hbox hg) | ((with_reducible refine gate_dst (N := 8) rfl ?_); refine box_event ?hg (N := 8) ?hd (cs := #[.int .i64 0, .slice none 0 0]) (t := 46) ?hr ?_; (case hd => rfl); (case hg => rfl); (case hr => first | (go_simp; done) | (go_simp; rfl)); intro gr hg w5 hbox hb; have n0_ := mK (lT HB.out hb); have n1_ := mK hbox; have n2_ := mK (bB BK.out hb); have n3_ := mK (by rw [hg]; exact (below_size HB.out) : w.heap.size ≤ gr); clear HB BK; have HB := n0_; have BKr := n1_; have BK := n2_; have GEr := n3_; clear n0_ n1_ n2_ n3_ hb hbox hg; have hcz0 : w5.cell? ⟨gd, 0, none⟩ = some (.int .i64 a1_0) := (bC BK.out 0).trans rfl; have hcz1 : w5.cell? ⟨gd, 1, none⟩ = some (.slice A1_1 l1_1.length c1_1) := (bC BK.out 1).trans rfl) | (go_at_call 37; (refine (NO.out _ _ (Kd.C_below HR.out HB.out) (Kd.C_below HV.out HB.out) O1.out).mono ?_); rintro e w6 ⟨rfl, hb⟩; have n0_ := mK (lT HB.out hb); have n1_ := mK (bB BKr.out hb); clear HB BKr hcz0 hcz1; have HB := n0_; have BKr := n1_; clear n0_ n1_ hb; have hcr0 : w6.cell? ⟨gr, 0, none⟩ = some (.int .i64 0) := (bC BKr.out 0).trans rfl; have hcr1 : w6.cell? ⟨gr, 1, none⟩ = some (.slice none 0 0) := (bC BKr.out 1).trans rfl; have hfr0 := bF BKr.out 0; have hfr1 := bF BKr.out 1) | (go_at_call 84; (refine (NC.out _ (Kd.C_below HT.out HB.out)).mono ?_); rintro e w7 ⟨rfl, hd⟩; have hb := hd.below; have n0_ := mK (lT HB.out hb); have n1_ := mK (bB BKr.out hb); clear HB BKr hcr0 hcr1 hfr0 hfr1; have HB := n0_; have BKr := n1_; clear n0_ n1_ hb hd; have hcr0 : w7.cell? ⟨gr, 0, none⟩ = some (.int .i64 0) := (bC BKr.out 0).trans rfl; have hcr1 : w7.cell? ⟨gr, 1, none⟩ = some (.slice none 0 0) := (bC BKr.out 1).trans rfl; have hfr0 := bF BKr.out 0; have hfr1 := bF BKr.out 1)); refine bodyPost_ret (results_cell_row rfl _ _ gr 46 #[.int .i64 0, .slice none 0 0] (0, 0) _ rfl (by refine blk_put (cs := #[.int .i64 0, .slice none 0 0]) ?_ 1 _ rfl; refine blk_put (cs := #[.int .i64 0, .slice none 0 0]) ?_ 0 _ rfl; exact BKr.out) Tryd.underlying46 rfl (by kernel_rfl)) rfl ?_; exact ⟨_, rfl, Kd.R_nil _ _ _ _ _, lS (lS HB.out GEr.out) GEr.out⟩
   ·have c3b0 : decide ((400 : Int) < (l3.length : Int)) = true := decide_eq_true (by omega); rw [if_neg (show ¬ impl_Forwarded.ok l0 a1_0 l1_1 l2 l3 = true by unfold impl_Forwarded.ok; rw [decide_eq_false d3]; simp)] at h; obtain ⟨rfl, rfl⟩ := Prod.mk.inj h; clear h d1; (try clear d2); (try clear d3); (try clear d4); go_enter Tryd.func41, Tryd.ntmps41; go_wp2_with (first | ((with_reducible refine gate_dst (N := 5) rfl ?_); refine box_event ?hg (N := 5) ?hd (cs := #[.int .i64 a1_0, .slice A1_1 l1_1.length c1_1]) (t := 46) ?hr ?_; (case hd => rfl); (case hg => rfl); (case hr => first | (go_simp; done) | (go_simp; rfl)); intro gd hg w4 hbox hb; have n0_ := mK (lT HB.out hb); have n1_ := mK hbox; have n3_ := mK (by rw [hg]; exact (below_size HB.out) : w.heap.size ≤ gd); clear HB; have HB := n0_; have BK := n1_; have GE := n3_; clear n0_ n1_ n3_ hb hbox hg) | ((with_reducible refine gate_dst (N := 8) rfl ?_); refine box_event ?hg (N := 8) ?hd (cs := #[.int .i64 0, .slice none 0 0]) (t := 46) ?hr ?_; (case hd => rfl); (case hg => rfl); (case hr => first | (go_simp; done) | (go_simp; rfl)); intro gr hg w5 hbox hb; have n0_ := mK (lT HB.out hb); have n1_ := mK hbox; have n2_ := mK (bB BK.out hb); have n3_ := mK (by rw [hg]; exact (below_size HB.out) : w.heap.size ≤ gr); clear HB BK; have HB := n0_; have BKr := n1_; have BK := n2_; have GEr := n3_; clear n0_ n1_ n2_ n3_ hb hbox hg; have hcz0 : w5.cell? ⟨gd, 0, none⟩ = some (.int .i64 a1_0) := (bC BK.out 0).trans rfl; have hcz1 : w5.cell? ⟨gd, 1, none⟩ = some (.slice A1_1 l1_1.length c1_1) := (bC BK.out 1).trans rfl) | (go_at_call 37; (refine (NO.out _ _ (Kd.C_below HR.out HB.out) (Kd.C_below HV.out HB.out) O1.out).mono ?_); rintro e w6 ⟨rfl, hb⟩; have n0_ := mK (lT HB.out hb); have n1_ := mK (bB BKr.out hb); clear HB BKr hcz0 hcz1; have HB := n0_; have BKr := n1_; clear n0_ n1_ hb; have hcr0 : w6.cell? ⟨gr, 0, none⟩ = some (.int .i64 0) := (bC BKr.out 0).trans rfl; have hcr1 : w6.cell? ⟨gr, 1, none⟩ = some (.slice none 0 0) := (bC BKr.out 1).trans rfl; have hfr0 := bF BKr.out 0; have hfr1 := bF BKr.out 1) | (go_at_call 84; (refine (NC.out _ (Kd.C_below HT.out HB.out)).mono ?_); rintro e w7 ⟨rfl, hd⟩; have hb := hd.below; have n0_ := mK (lT HB.out hb); have n1_ := mK (bB BKr.out hb); clear HB BKr hcr0 hcr1 hfr0 hfr1; have HB := n0_; have BKr := n1_; clear n0_ n1_ hb hd; have hcr0 : w7.cell? ⟨gr, 0, none⟩ = some (.int .i64 0) := (bC BKr.out 0).trans rfl; have hcr1 : w7.cell? ⟨gr, 1, none⟩ = some (.slice none 0 0) := (bC BKr.out 1).trans rfl; have hfr0 := bF BKr.out 0; have hfr1 := bF BKr.out 1)); refine bodyPost_ret (results_cell_row rfl _ _ gr 46 #[.int .i64 0, .slice none 0 0] (0, 0) _ rfl (by refine blk_put (cs := #[.int .i64 0, .slice none 0 0]) ?_ 1 _ rfl; refine blk_put (cs := #[.int .i64 0, .slice none 0 0]) ?_ 0 _ rfl; exact BKr.out) Tryd.underlying46 rfl (by kernel_rfl)) rfl ?_; exact ⟨_, rfl, Kd.R_nil _ _ _ _ _, lS (lS HB.out GEr.out) GEr.out⟩
  ·have c2b0 : ((l2.length : Int) == (l3.length : Int)) = false := beq_eq_false_iff_ne.mpr d2; have c2b1 : ((l2.length : Int) != (l3.length : Int)) = true := bne_iff_ne.mpr d2; rw [if_neg (show ¬ impl_Forwarded.ok l0 a1_0 l1_1 l2 l3 = true by unfold impl_Forwarded.ok; rw [decide_eq_false d2]; simp)] at h; obtain ⟨rfl, rfl⟩ := Prod.mk.inj h; clear h d1; (try clear d2); (try clear d3); (try clear d4); go_enter Tryd.func41, Tryd.ntmps41; go_wp2_with (first | ((with_reducible refine gate_dst (N := 5) rfl ?_); refine box_event ?hg (N := 5) ?hd (cs := #[.int .i64 a1_0, .slice A1_1 l1_1.length c1_1]) (t := 46) ?hr ?_; (case hd => rfl); (case hg => rfl); (case hr => first | (go_simp; done) | (go_simp; rfl)); intro gd hg w4 hbox hb; have n0_ := mK (lT HB.out hb); have n1_ := mK hbox; have n3_ := mK (by rw [hg]; exact (below_size HB.out) : w.heap.size ≤ gd); clear HB; have HB := n0_; have BK := n1_; have GE := n3_; clear n0_ n1_ n3_ hb hbox hg) | ((with_reducible refine gate_dst (N := 8) rfl ?_); refine box_event ?hg (N := 8) ?hd (cs := #[.int .i64 0, .slice none 0 0]) (t := 46) ?hr ?_; (case hd => rfl); (case hg => rfl); (case hr => first | (go_simp; done) | (go_simp; rfl)); intro gr hg w5 hbox hb; have n0_ := mK (lT HB.out hb); have n1_ := mK hbox; have n2_ := mK (bB BK.out hb); have n3_ := mK (by rw [hg]; exact (below_size HB.out) : w.heap.size ≤ gr); clear HB BK; have HB := n0_; have BKr := n1_; have BK := n2_; have GEr := n3_; clear n0_ n1_ n2_ n3_ hb hbox hg; have hcz0 : w5.cell? ⟨gd, 0, none⟩ = some (.int .i64 a1_0) := (bC BK.out 0).trans rfl; have hcz1 : w5.cell? ⟨gd, 1, none⟩ = some (.slice A1_1 l1_1.length c1_1) := (bC BK.out 1).trans rfl) | (go_at_call 37; (refine (NO.out _ _ (Kd.C_below HR.out HB.out) (Kd.C_below HV.out HB.out) O1.out).mono ?_); rintro e w6 ⟨rfl, hb⟩; have n0_ := mK (lT HB.out hb); have n1_ := mK (bB BKr.out hb); clear HB BKr hcz0 hcz1; have HB := n0_; have BKr := n1_; clear n0_ n1_ hb; have hcr0 : w6.cell? ⟨gr, 0, none⟩ = some (.int .i64 0) := (bC BKr.out 0).trans rfl; have hcr1 : w6.cell? ⟨gr, 1, none⟩ = some (.slice none 0 0) := (bC BKr.out 1).trans rfl; have hfr0 := bF BKr.out 0; have hfr1 := bF BKr.out 1) | (go_at_call 84; (refine (NC.out _ (Kd.C_below HT.out HB.out)).mono ?_); rintro e w7 ⟨rfl, hd⟩; have hb := hd.below; have n0_ := mK (lT HB.out hb); have n1_ := mK (bB BKr.out hb); clear HB BKr hcr0 hcr1 hfr0 hfr1; have HB := n0_; have BKr := n1_; clear n0_ n1_ hb hd; have hcr0 : w7.cell? ⟨gr, 0, none⟩ = some (.int .i64 0) := (bC BKr.out 0).trans rfl; have hcr1 : w7.cell? ⟨gr, 1, none⟩ = some (.slice none 0 0) := (bC BKr.out 1).trans rfl; have hfr0 := bF BKr.out 0; have hfr1 := bF BKr.out 1)); refine bodyPost_ret (results_cell_row rfl _ _ gr 46 #[.int .i64 0, .slice none 0 0] (0, 0) _ rfl (by refine blk_put (cs := #[.int .i64 0, .slice none 0 0]) ?_ 1 _ rfl; refine blk_put (cs := #[.int .i64 0, .slice none 0 0]) ?_ 0 _ rfl; exact BKr.out) Tryd.underlying46 rfl (by kernel_rfl)) rfl ?_; exact ⟨_, rfl, Kd.R_nil _ _ _ _ _, lS (lS HB.out GEr.out) GEr.out⟩
 ·have O1 := mK (show impl_ObjOk.f l0 a1_0 l1_1 = some false by unfold impl_ObjOk.f; rw [Bool.eq_false_iff.2 d1]); rw [if_neg (show ¬ impl_Forwarded.ok l0 a1_0 l1_1 l2 l3 = true by unfold impl_Forwarded.ok; rw [Bool.eq_false_iff.2 d1]; simp)] at h; obtain ⟨rfl, rfl⟩ := Prod.mk.inj h; clear h d1; (try clear d2); (try clear d3); (try clear d4); go_enter Tryd.func41, Tryd.ntmps41; go_wp2_with (first | ((with_reducible refine gate_dst (N := 5) rfl ?_); refine box_event ?hg (N := 5) ?hd (cs := #[.int .i64 a1_0, .slice A1_1 l1_1.length c1_1]) (t := 46) ?hr ?_; (case hd => rfl); (case hg => rfl); (case hr => first | (go_simp; done) | (go_simp; rfl)); intro gd hg w4 hbox hb; have n0_ := mK (lT HB.out hb); have n1_ := mK hbox; have n3_ := mK (by rw [hg]; exact (below_size HB.out) : w.heap.size ≤ gd); clear HB; have HB := n0_; have BK := n1_; have GE := n3_; clear n0_ n1_ n3_ hb hbox hg) | ((with_reducible refine gate_dst (N := 8) rfl ?_); refine box_event ?hg (N := 8) ?hd (cs := #[.int .i64 0, .slice none 0 0]) (t := 46) ?hr ?_; (case hd => rfl); (case hg => rfl); (case hr => first | (go_simp; done) | (go_simp; rfl)); intro gr hg w5 hbox hb; have n0_ := mK (lT HB.out hb); have n1_ := mK hbox; have n2_ := mK (bB BK.out hb); have n3_ := mK (by rw [hg]; exact (below_size HB.out) : w.heap.size ≤ gr); clear HB BK; have HB := n0_; have BKr := n1_; have BK := n2_; have GEr := n3_; clear n0_ n1_ n2_ n3_ hb hbox hg; have hcz0 : w5.cell? ⟨gd, 0, none⟩ = some (.int .i64 a1_0) := (bC BK.out 0).trans rfl; have hcz1 : w5.cell? ⟨gd, 1, none⟩ = some (.slice A1_1 l1_1.length c1_1) := (bC BK.out 1).trans rfl) | (go_at_call 37; (refine (NO.out _ _ (Kd.C_below HR.out HB.out) (Kd.C_below HV.out HB.out) O1.out).mono ?_); rintro e w6 ⟨rfl, hb⟩; have n0_ := mK (lT HB.out hb); have n1_ := mK (bB BKr.out hb); clear HB BKr hcz0 hcz1; have HB := n0_; have BKr := n1_; clear n0_ n1_ hb; have hcr0 : w6.cell? ⟨gr, 0, none⟩ = some (.int .i64 0) := (bC BKr.out 0).trans rfl; have hcr1 : w6.cell? ⟨gr, 1, none⟩ = some (.slice none 0 0) := (bC BKr.out 1).trans rfl; have hfr0 := bF BKr.out 0; have hfr1 := bF BKr.out 1) | (go_at_call 84; (refine (NC.out _ (Kd.C_below HT.out HB.out)).mono ?_); rintro e w7 ⟨rfl, hd⟩; have hb := hd.below; have n0_ := mK (lT HB.out hb); have n1_ := mK (bB BKr.out hb); clear HB BKr hcr0 hcr1 hfr0 hfr1; have HB := n0_; have BKr := n1_; clear n0_ n1_ hb hd; have hcr0 : w7.cell? ⟨gr, 0, none⟩ = some (.int .i64 0) := (bC BKr.out 0).trans rfl; have hcr1 : w7.cell? ⟨gr, 1, none⟩ = some (.slice none 0 0) := (bC BKr.out 1).trans rfl; have hfr0 := bF BKr.out 0; have hfr1 := bF BKr.out 1)); refine bodyPost_ret (results_cell_row rfl _ _ gr 46 #[.int .i64 0, .slice none 0 0] (0, 0) _ rfl (by refine blk_put (cs := #[.int .i64 0, .slice none 0 0]) ?_ 1 _ rfl; refine blk_put (cs := #[.int .i64 0, .slice none 0 0]) ?_ 0 _ rfl; exact BKr.out) Tryd.underlying46 rfl (by kernel_rfl)) rfl ?_; exact ⟨_, rfl, Kd.R_nil _ _ _ _ _, lS (lS HB.out GEr.out) GEr.out⟩


/-! ### laws_markText: function 88 -/
def laws_markText.l0 : Nat → Int → ByteArray → Option (ByteArray)
  | 0, _, _ => none
  | k + 1, x0, x3 => if x0 > 0 then ((some (([(wrap64 (48 + (Int.tmod x0 10))) % 256] : List Int) : List Int)).bind fun y157 => (if (strOfNums y157).size + x3.size ≤ 9223372036854775807 then (laws_markText.l0 k (wrap64 (Int.tdiv x0 10)) ((strOfNums y157) ++ x3)) else (none))) else (if 1 + x3.size ≤ 9223372036854775807 then (some ((⟨#[109]⟩ : ByteArray) ++ x3)) else (none))
def laws_markText.f (k : Nat) (a0 : Int) : Option (ByteArray) := if a0 ≤ 0 then (some (⟨#[109, 48]⟩ : ByteArray)) else (laws_markText.l0 k a0 (⟨#[]⟩ : ByteArray))
theorem laws_markText.mono_l : ∀ k, (∀ y0 y1, LeO (laws_markText.l0 k y0 y1) (laws_markText.l0 (k + 1) y0 y1))
  | 0 => fun _ _ r h => by simp [laws_markText.l0] at h
  | k + 1 => by
    have ih0 := laws_markText.mono_l k
    · intro y0 y1
      unfold laws_markText.l0
      repeat' first
      | (with_reducible exact ih0 _ _)
      | (with_reducible exact LeO.refl _)
      | (with_reducible exact LeO.none _)
      | (with_reducible refine LeO.ite ?_ ?_)
      | (with_reducible refine LeO.bind ?_ (fun _ => ?_))
      | exact ih0 _ _
      | exact LeO.none _
      | refine LeO.ite ?_ ?_
      | refine LeO.bind ?_ (fun _ => ?_)
theorem laws_markText.mono : ∀ a0 k, LeO (laws_markText.f k a0) (laws_markText.f (k + 1) a0) := by
  intro a0 k
  have ih0 := laws_markText.mono_l k
  unfold laws_markText.f
  repeat' first
      | (with_reducible exact ih0 _ _)
      | (with_reducible exact LeO.refl _)
      | (with_reducible exact LeO.none _)
      | (with_reducible refine LeO.ite ?_ ?_)
      | (with_reducible refine LeO.bind ?_ (fun _ => ?_))
      | exact ih0 _ _
      | exact LeO.none _
      | refine LeO.ite ?_ ?_
      | refine LeO.bind ?_ (fun _ => ?_)
set_option maxHeartbeats 8000000 in
set_option maxRecDepth 100000 in
theorem laws_markText.calls (k : Nat) (a0 : Int) (r : ByteArray) (w : World) (h : laws_markText.f k a0 = some r) :
    Calls Tryd.prog 88 #[.int .i64 a0] w fun e w' => e = .returned (.string r) ∧ Below w.heap.size w w' := by
 have HB := mK (Below.refl w.heap.size w); have H : (if a0 ≤ 0 then (some (⟨#[109, 48]⟩ : ByteArray)) else (laws_markText.l0 k a0 (⟨#[]⟩ : ByteArray))) = some r := h; clear h; by_cases c2 : a0 ≤ 0
 ·rw [if_pos c2] at H; have c2b0 : decide (a0 ≤ 0) = true := decide_eq_true c2; clear c2; obtain rfl := Option.some.inj H; go_enter Tryd.func88, Tryd.ntmps88; go_wp2; go_ret; exact ⟨by first | rfl | (simp [errW_none, errW_some] <;> rfl) | (simp [*, errW_none, errW_some] <;> rfl), by repeat (first | (with_reducible first | exact HB.out | apply lA | apply lN | apply lD) | exact HB.out)⟩
 ·rw [if_neg c2] at H; have c2b0 : decide (a0 ≤ 0) = false := decide_eq_false c2; clear c2; have H' := mK H; clear H; go_enter Tryd.func88, Tryd.ntmps88; go_wp2; go_loopg [0, 3] k (fun kq v0 v3 w' => ∃ (x0_1 : Int) (x3_1 : ByteArray), v0 = .int .i64 x0_1 ∧ v3 = .string x3_1 ∧ Aside0 (laws_markText.l0 kq x0_1 x3_1 = some r) ∧ Aside0 (kq ≤ k) ∧ Aside0 (Below w.heap.size w w')); (case atStart => exact ⟨(a0), ((⟨#[]⟩ : ByteArray)), (by first | rfl | (simp; done) | (simp [*]; done)), (by first | rfl | (simp; done) | (simp [*]; done)), H', ⟨Nat.le_refl _⟩, ⟨by repeat (first | (with_reducible first | exact HB.out | apply lA | apply lN | apply lD) | exact HB.out)⟩⟩)
  case round =>
   clear H'; (try clear c2); (try clear c2b0); (try clear p2); obtain ⟨x0_1, x3_1, rfl, rfl, HA, HK1, HB⟩ := hrel
   cases gk with
   | zero => exact absurd HA.out (by simp [laws_markText.l0])
   | succ k1 =>
    have H := HA.out; clear HA; simp only [laws_markText.l0] at H; by_cases c3 : x0_1 > 0
    ·rw [if_pos c3] at H; have c3b0 : decide (0 < x0_1) = true := decide_eq_true c3; clear c3; obtain ⟨y157, hy157⟩ : ∃ y_ : List Int, y_ = (([(wrap64 (48 + (Int.tmod x0_1 10))) % 256] : List Int)) := ⟨_, rfl⟩; (replace H : (if (strOfNums y157).size + x3_1.size ≤ 9223372036854775807 then (laws_markText.l0 k1 (wrap64 (Int.tdiv x0_1 10)) ((strOfNums y157) ++ x3_1)) else (none)) = some r := by first | (rw [hy157]; with_reducible exact H) | (have H2_ := (Option.bind_some _ _).symm.trans H; rw [hy157]; with_reducible exact H2_) | (have H2_ := (Option.bind_some _ _).symm.trans H; with_reducible exact H2_) | with_reducible exact H | (rw [hy157]; exact H) | exact H); have Ny157 := mK hy157; clear hy157; by_cases c4 : (strOfNums y157).size + x3_1.size ≤ 9223372036854775807
     ·rw [if_pos c4] at H; have c4b0 := eq_true c4; have c4b1 : decide ((strOfNums y157).size + x3_1.size ≤ 9223372036854775807) = true := decide_eq_true c4; (try have c4b2 : (9223372036854775807 < (strOfNums y157).size + x3_1.size) = False := eq_false (Nat.not_lt.2 c4)); have H' := mK H; clear H; go_wp2_with (first | ((with_reducible refine gate_dst (N := 12) rfl ?_); refine Kd.R_lit (Kd.int .u8) _ 5 ?hg (N := 12) ?hd (xs := ([(wrap64 (48 + (Int.tmod x0_1 10))) % 256] : List Int)) (inner := [.int .u8 ((wrap64 (48 + (Int.tmod x0_1 10))) % 256)]) (ok := fun _ => True) (okp := fun _ => True) ?hr ?hp (fun _ hk => hk) trivial (Below.refl _ _) (Nat.le_refl _) (by simp) ?_; (case hd => rfl); (case hg => rfl); (case hr => first | (go_simp; done) | (go_simp; rfl)); (case hp => exact (Reps.one (show Kd.M (Kd.int .u8) _ _ _ ((wrap64 (48 + (Int.tmod x0_1 10))) % 256) [.int .u8 ((wrap64 (48 + (Int.tmod x0_1 10))) % 256)] from rfl) (Reps.none _ _))); intro v158 w5 ho6 hb hg_ hnew_; clear hg_ hnew_; (first | rw [← Ny157.out] at ho6 | (simp only [Int.reduceToNat] at ho6; rw [← Ny157.out] at ho6)); have n0_ := mK (Kd.R_lower ho6 (below_size (by repeat (first | (with_reducible first | exact HB.out | apply lA | apply lN | apply lD) | exact HB.out)))); have n1_ := mK (lT (by repeat (first | (with_reducible first | exact HB.out | apply lA | apply lN | apply lD) | exact HB.out)) hb); clear HB; have HO159 := n0_; have HB := n1_; clear n0_ n1_; clear hb ho6; have hcv7 := own_string (P := Tryd.prog) Tryd.underlying29 Tryd.underlying5 Tryd.underlying9 (Kd.own_of_R HO159.out))); go_roundg k1; (case measure => have := HK1.out; omega); (case rel => exact ⟨(wrap64 (Int.tdiv x0_1 10)), ((strOfNums y157) ++ x3_1), (by first | rfl | (simp; done) | (simp [*]; done)), (by first | rfl | (simp; done) | (simp [*]; done)), H', ⟨by have := HK1.out; omega⟩, ⟨by repeat (first | (with_reducible first | exact HB.out | apply lA | apply lN | apply lD) | exact HB.out)⟩⟩)
     (·rw [if_neg c4] at H; exact absurd H (by simp))
    ·rw [if_neg c3] at H; have c3b0 : decide (0 < x0_1) = false := decide_eq_false c3; clear c3; by_cases c8 : 1 + x3_1.size ≤ 9223372036854775807
     ·rw [if_pos c8] at H; have c8b0 := eq_true c8; have c8b1 : decide (1 + x3_1.size ≤ 9223372036854775807) = true := decide_eq_true c8; (try have c8b2 : (9223372036854775807 < 1 + x3_1.size) = False := eq_false (Nat.not_lt.2 c8)); obtain rfl := Option.some.inj H; go_wp2; go_ret; exact ⟨by first | rfl | (simp [errW_none, errW_some] <;> rfl) | (simp [*, errW_none, errW_some] <;> rfl), by repeat (first | (with_reducible first | exact HB.out | apply lA | apply lN | apply lD) | exact HB.out)⟩
     (·rw [if_neg c8] at H; exact absurd H (by simp))

/-! ### laws_markStringS: function 43 -/
def laws_markStringS.l0 : Nat → List ByteArray → Int → Int → Option (Int × List ByteArray)
  | 0, _, _, _ => none
  | k + 1, x0, x1, x5 => if x5 < (x0.length : Int) then ((laws_markText.f k x1).bind fun t160 => (if 0 ≤ x5 then (laws_markStringS.l0 k (x0.set (x5 : Int).toNat t160) (wrap64 (x1 + 1)) (wrap64 (x5 + 1))) else (none))) else (some (x1, x0))
def laws_markStringS.f (k : Nat) (l0 : List ByteArray) (a1 : Int) : Option (Int × List ByteArray) := laws_markStringS.l0 k l0 a1 0
theorem laws_markStringS.mono_l : ∀ k, (∀ y0 y1 y2, LeO (laws_markStringS.l0 k y0 y1 y2) (laws_markStringS.l0 (k + 1) y0 y1 y2))
  | 0 => fun _ _ _ r h => by simp [laws_markStringS.l0] at h
  | k + 1 => by
    have ih0 := laws_markStringS.mono_l k
    · intro y0 y1 y2
      unfold laws_markStringS.l0
      repeat' first
      | (with_reducible exact ih0 _ _ _)
      | (with_reducible exact laws_markText.mono _ _)
      | (with_reducible exact LeO.refl _)
      | (with_reducible exact LeO.none _)
      | (with_reducible refine LeO.ite ?_ ?_)
      | (with_reducible refine LeO.bind ?_ (fun _ => ?_))
      | exact ih0 _ _ _
      | exact laws_markText.mono _ _
      | exact LeO.none _
      | refine LeO.ite ?_ ?_
      | refine LeO.bind ?_ (fun _ => ?_)
theorem laws_markStringS.mono : ∀ a0 a1 k, LeO (laws_markStringS.f k a0 a1) (laws_markStringS.f (k + 1) a0 a1) := by
  intro a0 a1 k
  have ih0 := laws_markStringS.mono_l k
  unfold laws_markStringS.f
  repeat' first
      | (with_reducible exact ih0 _ _ _)
      | (with_reducible exact laws_markText.mono _ _)
      | (with_reducible exact LeO.refl _)
      | (with_reducible exact LeO.none _)
      | (with_reducible refine LeO.ite ?_ ?_)
      | (with_reducible refine LeO.bind ?_ (fun _ => ?_))
      | exact ih0 _ _ _
      | exact laws_markText.mono _ _
      | exact LeO.none _
      | refine LeO.ite ?_ ?_
      | refine LeO.bind ?_ (fun _ => ?_)
set_option maxHeartbeats 8000000 in
set_option maxRecDepth 100000 in
theorem laws_markStringS.calls (k : Nat) (P0_ : Nat → Prop) (u9000_ : Value) (l0 : List ByteArray) (a1 : Int) (r1 : Int) (r2 : List ByteArray) (w0 w : World) (hB : Below w0.heap.size w0 w) (ho0 : Kd.R Kd.string 9 w w0.heap.size P0_ u9000_ l0) (h : laws_markStringS.f k l0 a1 = some (r1, r2)) :
    Calls Tryd.prog 43 #[u9000_, .int .i64 a1] w fun e w' => e = .returned (.int .i64 r1) ∧ Kd.R Kd.string 9 w' w0.heap.size (fun k_ => (P0_ k_ ∨ w.heap.size ≤ k_)) u9000_ r2 ∧ Below w0.heap.size w0 w' ∧ Kept w w' (fun k_ => P0_ k_) := by
 have HO0 := mK (show Kd.R Kd.string 9 w w0.heap.size (fun k_ => (P0_ k_ ∨ w.heap.size ≤ k_)) u9000_ l0 from Kd.R_mono ho0 (fun k_ hk => (.inl hk))); have HK := mK (Kept.refl w (fun k_ => P0_ k_)); have HW0 := mK hB.size; have HB := mK hB; clear hB; have H : (laws_markStringS.l0 k l0 a1 0) = some (r1, r2) := h; clear h; have H' := mK H; clear H; go_enter Tryd.func43, Tryd.ntmps43; go_wp2; go_loopg [1, 5] k (fun kq v1 v5 w' => ∃ (x0_1 : List ByteArray) (x1_1 : Int) (x5_1 : Int), v1 = .int .i64 x1_1 ∧ v5 = .int .i64 x5_1 ∧ Aside0 (laws_markStringS.l0 kq x0_1 x1_1 x5_1 = some (r1, r2)) ∧ Aside0 (kq ≤ k) ∧ Aside0 (Kd.R Kd.string 9 w' w0.heap.size (fun k_ => (P0_ k_ ∨ w.heap.size ≤ k_)) u9000_ x0_1) ∧ Aside0 (Kept w w' (fun k_ => P0_ k_)) ∧ Aside0 (Below w0.heap.size w0 w')); (case atStart => exact ⟨(l0), (a1), (0), (by first | rfl | (simp; done) | (simp [*]; done)), (by first | rfl | (simp; done) | (simp [*]; done)), H', ⟨Nat.le_refl _⟩, ⟨by (with_reducible repeat (first | apply Kd.R_alloc | apply Kd.R_drewN | apply Kd.R_drew)); exact HO0.out⟩, ⟨by repeat (first | (with_reducible first | exact HK.out | apply Kept.alloc | apply Kept.drewN | apply Kept.drew) | exact HK.out)⟩, ⟨by repeat (first | (with_reducible first | exact HB.out | apply lA | apply lN | apply lD) | exact HB.out)⟩⟩)
 case round =>
  clear H'; (try clear p2); obtain ⟨x0_1, x1_1, x5_1, rfl, rfl, HA, HK1, HO_0, HK, HB⟩ := hrel
  cases gk with
  | zero => exact absurd HA.out (by simp [laws_markStringS.l0])
  | succ k1 =>
   have H := HA.out; clear HA; simp only [laws_markStringS.l0] at H; by_cases c3 : x5_1 < (x0_1.length : Int)
   ·rw [if_pos c3] at H; have c3b0 : decide (x5_1 < (x0_1.length : Int)) = true := decide_eq_true c3; clear c3; replace H := Option.bind_eq_some_iff.mp H; obtain ⟨t160, A40, H⟩ := H; replace H : (if 0 ≤ x5_1 then (laws_markStringS.l0 k1 (x0_1.set (x5_1 : Int).toNat t160) (wrap64 (x1_1 + 1)) (wrap64 (x5_1 + 1))) else (none)) = some (r1, r2) := H; have A4 := mK A40; clear A40; by_cases c5 : 0 ≤ x5_1
    ·rw [if_pos c5] at H; have c5b0 : decide (0 ≤ x5_1) = true := decide_eq_true c5; clear c5; obtain ⟨y161, hy161⟩ : ∃ y_ : List ByteArray, y_ = (x0_1.set (x5_1 : Int).toNat t160) := ⟨_, rfl⟩; (replace H : (laws_markStringS.l0 k1 y161 (wrap64 (x1_1 + 1)) (wrap64 (x5_1 + 1))) = some (r1, r2) := by first | (rw [hy161]; with_reducible exact H) | (have H2_ := (Option.bind_some _ _).symm.trans H; rw [hy161]; with_reducible exact H2_) | (have H2_ := (Option.bind_some _ _).symm.trans H; with_reducible exact H2_) | with_reducible exact H | (rw [hy161]; exact H) | exact H); have Ny161 := mK hy161; clear hy161; have H' := mK H; clear H; obtain ⟨Ao7, co7, eo7⟩ := Kd.R_slice HO_0.out; subst eo7; go_wp2_with (first | ((with_reducible refine gate_callee (f := 88) rfl ?_); refine goesL_ (some 15) rfl rfl Tryd.func88 (by kernel_rfl) rfl #[.int .i64 x1_1] rfl (by (try simp only [List.map_toArray, List.map_cons, List.map_nil]); first | done | rfl | (simp only [List.length_drop, List.length_take]; rfl)) ?_; (with_reducible refine (laws_markText.calls k1 x1_1 t160 _ A4.out).mono ?_); rintro e w8 ⟨rfl, hb⟩; refine ⟨_, rfl, ?_⟩; have n0_ := mK (Kd.R_below (by (with_reducible repeat (first | apply Kd.R_alloc | apply Kd.R_drewN | apply Kd.R_drew)); exact HO_0.out) hb); have n1_ := mK (Kept.below (S := (fun k_ => P0_ k_)) (by repeat (first | (with_reducible first | exact HK.out | apply Kept.alloc | apply Kept.drewN | apply Kept.drew) | exact HK.out)) hb); have n2_ := mK (lT (by repeat (first | (with_reducible first | exact HB.out | apply lA | apply lN | apply lD) | exact HB.out)) hb); clear HO_0; clear HK; clear HB; have HO_0 := n0_; have HK := n1_; have HB := n2_; clear n0_ n1_ n2_; (try clear hb); (try clear hb2); (try clear hk); (try clear hi); have p6 : 0 ≤ (x5_1 : Int) := of_decide_eq_true (by first | (with_reducible assumption) | assumption); have q6 : (x5_1 : Int) < ((x0_1.length : Int) : Int) := of_decide_eq_true (by first | (with_reducible assumption) | assumption); obtain ⟨go6, co6, eo6, gb6, gl6, cl6, HG6⟩ := Kd.R_form HO_0.out (by omega); (first | cases eo6 | (injection eo6 with ea_ en_ ec_; (first | subst ea_ | (injection ea_ with ea_; subst ea_)); subst ec_; clear en_)); have GB6 := mK gb6; have GG6 := mK HG6; clear gb6 gl6 HG6; have HMgo6 := mK (show (P0_ go6 ∨ w.heap.size ≤ go6) from (HO_0.out.1 _ rfl)); obtain ⟨hx6_0, hf6_0⟩ := Kd.R_celln (⟨#[]⟩ : ByteArray) HO_0.out (x5_1 : Int) p6 q6; replace p6 := eq_true p6; replace q6 := eq_true q6; obtain ⟨hy9_, hz9_⟩ := Kd.R_celln (⟨#[]⟩ : ByteArray) HO_0.out (x5_1 : Int) (of_decide_eq_true (by first | (with_reducible assumption) | assumption)) (of_decide_eq_true (by first | (with_reducible assumption) | assumption)); have HP9 := Kd.R_putg HO_0.out (x5_1 : Int) t160) | ((with_reducible refine gate_store (t := 9) (p := 16) rfl ?_); refine store_event (t := 9) (p := 16) (v := ?vo_w10) (w1 := (w8.setCell ⟨go6, (x5_1 : Int).toNat, none⟩ (.string t160))) ?hg ?ho ?hn ?hr ?_; (case ho => rfl); (case hg => rfl); (case hn => rfl); (case hr => first | (go_simp; done) | (go_simp; rfl)); intro w10 hw; have hg : w8.grownBy w10 (some go6) := (by rw [hw]; exact HP9.2); have hp_ : Kd.R Kd.string 9 w10 w0.heap.size (fun k_ => (P0_ k_ ∨ w.heap.size ≤ k_)) (.slice (some ⟨go6, 0, none⟩) x0_1.length co7) y161 := (by rw [hw, Ny161.out]; exact HP9.1); clear HP9; have n0_ := mK (hp_); have n1_ := mK ((by rw [hw]; exact lS (HB.out) GB6.out : Below w0.heap.size w0 w10)); have n2_ := mK (Kept.of_grown (S := (fun k_ => P0_ k_)) hg (by repeat (first | (with_reducible first | exact HK.out | apply Kept.alloc | apply Kept.drewN | apply Kept.drew) | exact HK.out)) (fun k_ e_ => (HO_0.out.1 k_ e_))); clear HO_0; clear HB; clear HK; have HO_0 := n0_; have HB := n1_; have HK := n2_; clear n0_ n1_ n2_; clear hg hw hp_)); go_roundg k1; (case measure => have := HK1.out; omega); (case rel => exact ⟨(y161), (wrap64 (x1_1 + 1)), (wrap64 (x5_1 + 1)), (by first | rfl | (simp; done) | (simp [*]; done)), (by first | rfl | (simp; done) | (simp [*]; done)), H', ⟨by have := HK1.out; omega⟩, ⟨by (with_reducible repeat (first | apply Kd.R_alloc | apply Kd.R_drewN | apply Kd.R_drew)); exact HO_0.out⟩, ⟨by repeat (first | (with_reducible first | exact HK.out | apply Kept.alloc | apply Kept.drewN | apply Kept.drew) | exact HK.out)⟩, ⟨by repeat (first | (with_reducible first | exact HB.out | apply lA | apply lN | apply lD) | exact HB.out)⟩⟩)
    (·rw [if_neg c5] at H; exact absurd H (by simp))
   ·rw [if_neg c3] at H; have c3b0 : decide (x5_1 < (x0_1.length : Int)) = false := decide_eq_false c3; clear c3; simp only [Option.some.injEq, Prod.mk.injEq] at H; obtain ⟨rfl, rfl⟩ := H; obtain ⟨Ao11, co11, eo11⟩ := Kd.R_slice HO_0.out; subst eo11; go_wp2; go_ret; exact ⟨by first | rfl | (simp [errW_none, errW_some] <;> rfl) | (simp [*, errW_none, errW_some] <;> rfl), by (with_reducible repeat (first | apply Kd.R_alloc | apply Kd.R_drewN | apply Kd.R_drew)); exact HO_0.out, by repeat (first | (with_reducible first | exact HB.out | apply lA | apply lN | apply lD) | exact HB.out), by repeat (first | (with_reducible first | exact HK.out | apply Kept.alloc | apply Kept.drewN | apply Kept.drew) | exact HK.out)⟩

/-! ### laws_markInt64S: function 45 -/
def laws_markInt64S.l0 : Nat → List Int → Int → Int → Option (Int × List Int)
  | 0, _, _, _ => none
  | k + 1, x0, x1, x5 => if x5 < (x0.length : Int) then (if 0 ≤ x5 then (laws_markInt64S.l0 k (x0.set (x5 : Int).toNat x1) (wrap64 (x1 + 1)) (wrap64 (x5 + 1))) else (none)) else (some (x1, x0))
def laws_markInt64S.f (k : Nat) (l0 : List Int) (a1 : Int) : Option (Int × List Int) := laws_markInt64S.l0 k l0 a1 0
theorem laws_markInt64S.mono_l : ∀ k, (∀ y0 y1 y2, LeO (laws_markInt64S.l0 k y0 y1 y2) (laws_markInt64S.l0 (k + 1) y0 y1 y2))
  | 0 => fun _ _ _ r h => by simp [laws_markInt64S.l0] at h
  | k + 1 => by
    have ih0 := laws_markInt64S.mono_l k
    · intro y0 y1 y2
      unfold laws_markInt64S.l0
      repeat' first
      | (with_reducible exact ih0 _ _ _)
      | (with_reducible exact LeO.refl _)
      | (with_reducible exact LeO.none _)
      | (with_reducible refine LeO.ite ?_ ?_)
      | (with_reducible refine LeO.bind ?_ (fun _ => ?_))
      | exact ih0 _ _ _
      | exact LeO.none _
      | refine LeO.ite ?_ ?_
      | refine LeO.bind ?_ (fun _ => ?_)
theorem laws_markInt64S.mono : ∀ a0 a1 k, LeO (laws_markInt64S.f k a0 a1) (laws_markInt64S.f (k + 1) a0 a1) := by
  intro a0 a1 k
  have ih0 := laws_markInt64S.mono_l k
  unfold laws_markInt64S.f
  repeat' first
      | (with_reducible exact ih0 _ _ _)
      | (with_reducible exact LeO.refl _)
      | (with_reducible exact LeO.none _)
      | (with_reducible refine LeO.ite ?_ ?_)
      | (with_reducible refine LeO.bind ?_ (fun _ => ?_))
      | exact ih0 _ _ _
      | exact LeO.none _
      | refine LeO.ite ?_ ?_
      | refine LeO.bind ?_ (fun _ => ?_)
set_option maxHeartbeats 8000000 in
set_option maxRecDepth 100000 in
theorem laws_markInt64S.calls (k : Nat) (P0_ : Nat → Prop) (u9000_ : Value) (l0 : List Int) (a1 : Int) (r1 : Int) (r2 : List Int) (w0 w : World) (hB : Below w0.heap.size w0 w) (ho0 : Kd.R (Kd.int .i64) 2 w w0.heap.size P0_ u9000_ l0) (h : laws_markInt64S.f k l0 a1 = some (r1, r2)) :
    Calls Tryd.prog 45 #[u9000_, .int .i64 a1] w fun e w' => e = .returned (.int .i64 r1) ∧ Kd.R (Kd.int .i64) 2 w' w0.heap.size (fun k_ => (P0_ k_ ∨ w.heap.size ≤ k_)) u9000_ r2 ∧ Below w0.heap.size w0 w' ∧ Kept w w' (fun k_ => P0_ k_) := by
 have HO0 := mK (show Kd.R (Kd.int .i64) 2 w w0.heap.size (fun k_ => (P0_ k_ ∨ w.heap.size ≤ k_)) u9000_ l0 from Kd.R_mono ho0 (fun k_ hk => (.inl hk))); have HK := mK (Kept.refl w (fun k_ => P0_ k_)); have HW0 := mK hB.size; have HB := mK hB; clear hB; have H : (laws_markInt64S.l0 k l0 a1 0) = some (r1, r2) := h; clear h; have H' := mK H; clear H; go_enter Tryd.func45, Tryd.ntmps45; go_wp2; go_loopg [1, 5] k (fun kq v1 v5 w' => ∃ (x0_1 : List Int) (x1_1 : Int) (x5_1 : Int), v1 = .int .i64 x1_1 ∧ v5 = .int .i64 x5_1 ∧ Aside0 (laws_markInt64S.l0 kq x0_1 x1_1 x5_1 = some (r1, r2)) ∧ Aside0 (kq ≤ k) ∧ Aside0 (Kd.R (Kd.int .i64) 2 w' w0.heap.size (fun k_ => (P0_ k_ ∨ w.heap.size ≤ k_)) u9000_ x0_1) ∧ Aside0 (Kept w w' (fun k_ => P0_ k_)) ∧ Aside0 (Below w0.heap.size w0 w')); (case atStart => exact ⟨(l0), (a1), (0), (by first | rfl | (simp; done) | (simp [*]; done)), (by first | rfl | (simp; done) | (simp [*]; done)), H', ⟨Nat.le_refl _⟩, ⟨by (with_reducible repeat (first | apply Kd.R_alloc | apply Kd.R_drewN | apply Kd.R_drew)); exact HO0.out⟩, ⟨by repeat (first | (with_reducible first | exact HK.out | apply Kept.alloc | apply Kept.drewN | apply Kept.drew) | exact HK.out)⟩, ⟨by repeat (first | (with_reducible first | exact HB.out | apply lA | apply lN | apply lD) | exact HB.out)⟩⟩)
 case round =>
  clear H'; (try clear p2); obtain ⟨x0_1, x1_1, x5_1, rfl, rfl, HA, HK1, HO_0, HK, HB⟩ := hrel
  cases gk with
  | zero => exact absurd HA.out (by simp [laws_markInt64S.l0])
  | succ k1 =>
   have H := HA.out; clear HA; simp only [laws_markInt64S.l0] at H; by_cases c3 : x5_1 < (x0_1.length : Int)
   ·rw [if_pos c3] at H; have c3b0 : decide (x5_1 < (x0_1.length : Int)) = true := decide_eq_true c3; clear c3; by_cases c4 : 0 ≤ x5_1
    ·rw [if_pos c4] at H; have c4b0 : decide (0 ≤ x5_1) = true := decide_eq_true c4; clear c4; obtain ⟨y162, hy162⟩ : ∃ y_ : List Int, y_ = (x0_1.set (x5_1 : Int).toNat x1_1) := ⟨_, rfl⟩; (replace H : (laws_markInt64S.l0 k1 y162 (wrap64 (x1_1 + 1)) (wrap64 (x5_1 + 1))) = some (r1, r2) := by first | (rw [hy162]; with_reducible exact H) | (have H2_ := (Option.bind_some _ _).symm.trans H; rw [hy162]; with_reducible exact H2_) | (have H2_ := (Option.bind_some _ _).symm.trans H; with_reducible exact H2_) | with_reducible exact H | (rw [hy162]; exact H) | exact H); have Ny162 := mK hy162; clear hy162; have H' := mK H; clear H; obtain ⟨Ao6, co6, eo6⟩ := Kd.R_slice HO_0.out; subst eo6; have p5 : 0 ≤ (x5_1 : Int) := of_decide_eq_true (by first | (with_reducible assumption) | assumption); have q5 : (x5_1 : Int) < ((x0_1.length : Int) : Int) := of_decide_eq_true (by first | (with_reducible assumption) | assumption); obtain ⟨go5, co5, eo5, gb5, gl5, cl5, HG5⟩ := Kd.R_form HO_0.out (by omega); (first | cases eo5 | (injection eo5 with ea_ en_ ec_; (first | subst ea_ | (injection ea_ with ea_; subst ea_)); subst ec_; clear en_)); have GB5 := mK gb5; have GG5 := mK HG5; clear gb5 gl5 HG5; have HMgo5 := mK (show (P0_ go5 ∨ w.heap.size ≤ go5) from (HO_0.out.1 _ rfl)); obtain ⟨hx5_0, hf5_0⟩ := Kd.R_celln 0 HO_0.out (x5_1 : Int) p5 q5; replace p5 := eq_true p5; replace q5 := eq_true q5; have HP7 := Kd.R_putg HO_0.out (x5_1 : Int) x1_1; go_wp2_with (first | ((with_reducible refine gate_store (t := 2) (p := 15) rfl ?_); refine store_event (t := 2) (p := 15) (v := ?vo_w8) (w1 := (wr.setCell ⟨go5, (x5_1 : Int).toNat, none⟩ (.int .i64 x1_1))) ?hg ?ho ?hn ?hr ?_; (case ho => rfl); (case hg => rfl); (case hn => rfl); (case hr => first | (go_simp; done) | (go_simp; rfl)); intro w8 hw; have hg : wr.grownBy w8 (some go5) := (by rw [hw]; exact HP7.2); have hp_ : Kd.R (Kd.int .i64) 2 w8 w0.heap.size (fun k_ => (P0_ k_ ∨ w.heap.size ≤ k_)) (.slice (some ⟨go5, 0, none⟩) x0_1.length co6) y162 := (by rw [hw, Ny162.out]; exact HP7.1); clear HP7; have n0_ := mK (hp_); have n1_ := mK ((by rw [hw]; exact lS (HB.out) GB5.out : Below w0.heap.size w0 w8)); have n2_ := mK (Kept.of_grown (S := (fun k_ => P0_ k_)) hg (by repeat (first | (with_reducible first | exact HK.out | apply Kept.alloc | apply Kept.drewN | apply Kept.drew) | exact HK.out)) (fun k_ e_ => (HO_0.out.1 k_ e_))); clear HO_0; clear HB; clear HK; have HO_0 := n0_; have HB := n1_; have HK := n2_; clear n0_ n1_ n2_; clear hg hw hp_)); go_roundg k1; (case measure => have := HK1.out; omega); (case rel => exact ⟨(y162), (wrap64 (x1_1 + 1)), (wrap64 (x5_1 + 1)), (by first | rfl | (simp; done) | (simp [*]; done)), (by first | rfl | (simp; done) | (simp [*]; done)), H', ⟨by have := HK1.out; omega⟩, ⟨by (with_reducible repeat (first | apply Kd.R_alloc | apply Kd.R_drewN | apply Kd.R_drew)); exact HO_0.out⟩, ⟨by repeat (first | (with_reducible first | exact HK.out | apply Kept.alloc | apply Kept.drewN | apply Kept.drew) | exact HK.out)⟩, ⟨by repeat (first | (with_reducible first | exact HB.out | apply lA | apply lN | apply lD) | exact HB.out)⟩⟩)
    (·rw [if_neg c4] at H; exact absurd H (by simp))
   ·rw [if_neg c3] at H; have c3b0 : decide (x5_1 < (x0_1.length : Int)) = false := decide_eq_false c3; clear c3; simp only [Option.some.injEq, Prod.mk.injEq] at H; obtain ⟨rfl, rfl⟩ := H; obtain ⟨Ao9, co9, eo9⟩ := Kd.R_slice HO_0.out; subst eo9; go_wp2; go_ret; exact ⟨by first | rfl | (simp [errW_none, errW_some] <;> rfl) | (simp [*, errW_none, errW_some] <;> rfl), by (with_reducible repeat (first | apply Kd.R_alloc | apply Kd.R_drewN | apply Kd.R_drew)); exact HO_0.out, by repeat (first | (with_reducible first | exact HB.out | apply lA | apply lN | apply lD) | exact HB.out), by repeat (first | (with_reducible first | exact HK.out | apply Kept.alloc | apply Kept.drewN | apply Kept.drew) | exact HK.out)⟩

/-! ### laws_markObj: function 44 -/
def laws_markObj.f (k : Nat) (a0_0 : Int) (l0_1 : List Int) (a1 : Int) : Option (Int × List Int) := (laws_markInt64S.f k l0_1 a1).bind fun bt164 => (some (bt164.1, bt164.2))
theorem laws_markObj.mono : ∀ a0 a1 a2 k, LeO (laws_markObj.f k a0 a1 a2) (laws_markObj.f (k + 1) a0 a1 a2) := by
  intro a0 a1 a2 k
  unfold laws_markObj.f
  repeat' first
      | (with_reducible exact laws_markInt64S.mono _ _ _)
      | (with_reducible exact LeO.refl _)
      | (with_reducible exact LeO.none _)
      | (with_reducible refine LeO.ite ?_ ?_)
      | (with_reducible refine LeO.bind ?_ (fun _ => ?_))
      | exact laws_markInt64S.mono _ _ _
      | exact LeO.none _
      | refine LeO.ite ?_ ?_
      | refine LeO.bind ?_ (fun _ => ?_)
set_option maxHeartbeats 8000000 in
set_option maxRecDepth 100000 in
theorem laws_markObj.calls (k : Nat) (a0_0 : Int) (P0_1_ : Nat → Prop) (u9000_ : Value) (l0_1 : List Int) (a1 : Int) (r1 : Int) (r2 : List Int) (w0 w : World) (hB : Below w0.heap.size w0 w) (ho0_1 : Kd.R (Kd.int .i64) 2 w w0.heap.size P0_1_ u9000_ l0_1) (h : laws_markObj.f k a0_0 l0_1 a1 = some (r1, r2)) :
    Calls Tryd.prog 44 #[.agg #[.int .i64 a0_0, u9000_], .int .i64 a1] w fun e w' => e = .returned (.int .i64 r1) ∧ Kd.R (Kd.int .i64) 2 w' w0.heap.size (fun k_ => (P0_1_ k_ ∨ w.heap.size ≤ k_)) u9000_ r2 ∧ Below w0.heap.size w0 w' ∧ Kept w w' (fun k_ => P0_1_ k_) := by
 have hu46 := Tryd.underlying46; have HO0_1 := mK (show Kd.R (Kd.int .i64) 2 w w0.heap.size (fun k_ => (P0_1_ k_ ∨ w.heap.size ≤ k_)) u9000_ l0_1 from Kd.R_mono ho0_1 (fun k_ hk => (.inl hk))); have HK := mK (Kept.refl w (fun k_ => P0_1_ k_)); have HW0 := mK hB.size; have HB := mK hB; clear hB; have H : ((laws_markInt64S.f k l0_1 a1).bind fun bt164 => (some (bt164.1, bt164.2))) = some (r1, r2) := h; clear h; replace H := Option.bind_eq_some_iff.mp H; obtain ⟨⟨t164, t165⟩, A30, H⟩ := H; replace H : (some (t164, t165)) = some (r1, r2) := H; have A3 := mK A30; clear A30; simp only [Option.some.injEq, Prod.mk.injEq] at H; obtain ⟨rfl, rfl⟩ := H; obtain ⟨Ao4, co4, eo4⟩ := Kd.R_slice HO0_1.out; subst eo4; go_enter Tryd.func44, Tryd.ntmps44; go_wp2_with (first | ((with_reducible refine gate_dst (N := 2) rfl ?_); refine box_event ?hg (N := 2) ?hd (cs := #[.int .i64 a0_0, .slice Ao4 l0_1.length co4]) (t := 46) ?hr ?_; (case hd => rfl); (case hg => rfl); (case hr => first | (go_simp; done) | (go_simp; rfl)); intro gb163 hg w5 hbox hb; have n0_ := mK (Kd.R_below (by (with_reducible repeat (first | apply Kd.R_alloc | apply Kd.R_drewN | apply Kd.R_drew)); exact HO0_1.out) hb); have n1_ := mK (Kept.below (S := (fun k_ => P0_1_ k_)) (by repeat (first | (with_reducible first | exact HK.out | apply Kept.alloc | apply Kept.drewN | apply Kept.drew) | exact HK.out)) hb); have n2_ := mK (lT (by repeat (first | (with_reducible first | exact HB.out | apply lA | apply lN | apply lD) | exact HB.out)) hb); have n3_ := mK (hbox); have n4_ := mK ((by rw [hg]; exact (by first | exact HK.out.1 | exact (show Kept w _ (fun k_ => P0_1_ k_) from by repeat (first | (with_reducible first | exact HK.out | apply Kept.alloc | apply Kept.drewN | apply Kept.drew) | exact HK.out)).1) : w.heap.size ≤ gb163)); have n5_ := mK ((by rw [hg]; exact (below_size (by repeat (first | (with_reducible first | exact HB.out | apply lA | apply lN | apply lD) | exact HB.out))) : w0.heap.size ≤ gb163)); clear HO0_1; clear HK; clear HB; have HO0_1 := n0_; have HK := n1_; have HB := n2_; have BK163 := n3_; have GW163 := n4_; have GE163 := n5_; clear n0_ n1_ n2_ n3_ n4_ n5_; clear hb hbox hg; have hcz6_0 : w5.cell? ⟨gb163, 0, none⟩ = some (.int .i64 a0_0) := (bC BK163.out 0).trans rfl; have hcz6_1 : w5.cell? ⟨gb163, 1, none⟩ = some (.slice Ao4 l0_1.length co4) := (bC BK163.out 1).trans rfl; have hfz6_0 := bF BK163.out 0; have hfz6_1 := bF BK163.out 1) | ((with_reducible refine gate_callee (f := 45) rfl ?_); refine goesL_ (some 8) rfl rfl Tryd.func45 (by kernel_rfl) rfl #[.slice Ao4 l0_1.length co4, .int .i64 a1] rfl (by (try simp only [List.map_toArray, List.map_cons, List.map_nil]); first | done | rfl | (simp only [List.length_drop, List.length_take]; rfl)) ?_; (with_reducible refine (laws_markInt64S.calls k (fun k_ => some k_ = (.slice Ao4 l0_1.length co4 : Value).ownBlock) (.slice Ao4 l0_1.length co4) l0_1 a1 t164 t165 w0 _ ?side1 ?side2 A3.out).mono ?_); (case side1 => repeat (first | (with_reducible first | exact HB.out | apply lA | apply lN | apply lD | refine lS ?_ GE163.out) | exact HB.out)); (case side2 => exact Kd.R_tight rfl HO0_1.out); rintro e w7 ⟨rfl, hy0, hb, hkp⟩; refine ⟨_, rfl, ?_⟩; have n0_ := mK (Kd.R_reok rfl hy0 (fun k_ e_ => HO0_1.out.1 k_ e_)); have n1_ := mK (blk_kept (by (with_reducible repeat (first | apply bN | apply bD | apply bA)); exact BK163.out) hkp (fun hs_ => (fun e_ => (Kd.R_ne HO0_1.out BK163.out (by decide)) e_) hs_)); have n2_ := mK (Kept.then_ (S := (fun k_ => P0_1_ k_)) (by repeat (first | (with_reducible first | exact HK.out | apply Kept.alloc | apply Kept.drewN | apply Kept.drew | refine Kept.setCell ?_ (.inr GW163.out) _) | exact HK.out)) hkp (fun k_ hs_ => (fun e_ => (HO0_1.out.1 k_ e_.symm)) hs_)); have n3_ := mK (hb); clear HO0_1; clear BK163; clear HK; clear HB; have HO0_1 := n0_; have BK163 := n1_; have HK := n2_; have HB := n3_; clear n0_ n1_ n2_ n3_; (try clear hb); (try clear hkp); (try clear hy0))); go_ret; exact ⟨by first | rfl | (simp [errW_none, errW_some] <;> rfl) | (simp [*, errW_none, errW_some] <;> rfl), by (with_reducible repeat (first | apply Kd.R_alloc | apply Kd.R_drewN | apply Kd.R_drew)); exact HO0_1.out, by repeat (first | (with_reducible first | exact HB.out | apply lA | apply lN | apply lD | refine lS ?_ GE163.out) | exact HB.out), by repeat (first | (with_reducible first | exact HK.out | apply Kept.alloc | apply Kept.drewN | apply Kept.drew | refine Kept.setCell ?_ (.inr GW163.out) _) | exact HK.out)⟩

end Go.Proofs.YtknllhfhcgahiaaDoor.PFnExactForwarded
