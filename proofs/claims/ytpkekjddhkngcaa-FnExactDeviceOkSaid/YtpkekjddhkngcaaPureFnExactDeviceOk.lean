/- The program's and the reference's DeviceOk agree: both say DevOk. -/
import Derived.Test.YtpkekjddhkngcaaPFnExactDeviceOkx5
namespace Go.Proofs.Ytpkekjddhkngcaa.Pure
open Go.RowKit Go.Proofs.Ytpkekjddhkngcaa.PFnExactDeviceOk Go.Proofs.YtpkekjddhkngcaaW.PrintWords Go.Proofs.YtpkekjddhkngcaaW.PrintLast
theorem w64 {n : Int} (h0 : -9223372036854775808 ≤ n) (h1 : n ≤ 9223372036854775807) : wrap64 n = n := by unfold wrap64; omega
theorem u64 (n : Int) : IntKind.u64.wrap n = n % 18446744073709551616 := by simp [IntKind.wrap, IntKind.bits, IntKind.signed]
theorem wf64 {n : Int} (h : (Lit.int .i64 n).wf = true) : -9223372036854775808 ≤ n ∧ n ≤ 9223372036854775807 := by
  simp [Lit.wf, IntKind.min, IntKind.max, IntKind.bits, IntKind.signed] at h
  omega
theorem evThen {α β : Type} {g : Nat → Option α} {h : Nat → Option β} {f : Nat → α → Option β} {a : α} {r : β} (e : Ev g a) (he : ∀ k, h k = (g k).bind (f k)) (k : Ev (fun n => f n a) r) : Ev h r := Ev.congr he (Ev.bind e k)
theorem evIs {α : Type} {g : Nat → Option α} {r : α} (h : ∀ k, g k = some r) : Ev g r := ⟨0, fun k _ => h k⟩
theorem szLine_some (a : Int) (b c : ByteArray) (left : Int) : ∃ r, laws_szLine.f a b c left = some r := by
  unfold laws_szLine.f
  split
  · exact ⟨_, rfl⟩
  · split <;> exact ⟨_, rfl⟩
theorem szLineS_l (l : List S72) (hl : l.length ≤ 9223372036854775807) : ∀ (n : Nat) (left : Int) (i : Nat), i + n = l.length → ∃ r, Ev (fun k => laws_szLineS.l0 k l left (i : Int)) r := by
  intro n
  induction n with
  | zero => intro left i hi; exact ⟨left, Ev.step (f := fun _ => some left) (fun k => by simp only [laws_szLineS.l0]; rw [if_neg (by omega)]) (Ev.now _)⟩
  | succ n ih =>
    intro left i hi
    obtain ⟨r, hr⟩ := szLine_some (rd_T72 l i).f0 (rd_T72 l i).f1 (rd_T72 l i).f2 left
    by_cases c : r < 0
    · exact ⟨-1, Ev.step (f := fun _ => some (-1)) (fun k => by simp only [laws_szLineS.l0]; rw [if_pos (by omega), if_pos (by omega), hr, Option.bind_some, if_pos c]) (Ev.now _)⟩
    · obtain ⟨z, hz⟩ := ih r (i + 1) (by omega)
      refine ⟨z, Ev.step (f := fun k => laws_szLineS.l0 k l r ((i + 1 : Nat) : Int)) (fun k => ?_) hz⟩
      simp only [laws_szLineS.l0]
      rw [if_pos (by omega), if_pos (by omega), hr, Option.bind_some, if_neg c, w64 (by omega) (by omega)]
      rfl
theorem szLineS_ev (l : List S72) (hl : l.length ≤ 9223372036854775807) (left : Int) (h0 : left ≤ 1048576) (h1 : 0 ≤ left) : ∃ r, Ev (fun k => laws_szLineS.f k l left) r ∧ (0 ≤ r → l.length ≤ 1048576) := by
  by_cases c : wrap64 (left - (l.length : Int)) < 0
  · exact ⟨-1, evIs fun k => by unfold laws_szLineS.f; rw [if_pos c], by omega⟩
  · obtain ⟨r, hr⟩ := szLineS_l l hl l.length (wrap64 (left - (l.length : Int))) 0 (by omega)
    refine ⟨r, Ev.congr (fun k => by unfold laws_szLineS.f; rw [if_neg c]; rfl) hr, fun _ => ?_⟩
    rw [w64 (by omega) (by omega)] at c
    omega
theorem szDevice_ev (s : ByteArray) (l : List S72) (hs : s.size ≤ 9223372036854775807) (hl : l.length ≤ 9223372036854775807) : ∃ r, Ev (fun k => laws_szDevice.f k s l 1048576) r ∧ (0 ≤ r → s.size ≤ 1048576 ∧ l.length ≤ 1048576) := by
  by_cases c : wrap64 (1048576 - (s.size : Int)) < 0
  · exact ⟨-1, evIs fun k => by unfold laws_szDevice.f; rw [if_pos c], by omega⟩
  · have c' := c
    rw [w64 (by omega) (by omega)] at c'
    have e : wrap64 (1048576 - (s.size : Int)) = 1048576 - (s.size : Int) := w64 (by omega) (by omega)
    obtain ⟨r, hr, hb⟩ := szLineS_ev l hl (wrap64 (1048576 - (s.size : Int))) (by omega) (by omega)
    by_cases d : r < 0
    · exact ⟨-1, evThen hr (fun k => by unfold laws_szDevice.f; rw [if_neg c]) (evIs fun k => by rw [if_pos d]), by omega⟩
    · exact ⟨r, evThen hr (fun k => by unfold laws_szDevice.f; rw [if_neg c]) (evIs fun k => by rw [if_neg d]), fun _ => ⟨by omega, hb (by omega)⟩⟩
theorem sIn (a b c : Int) : spec_l1In.f a b c = some (decide (b ≤ a ∧ a ≤ c)) := by
  unfold spec_l1In.f
  by_cases h : a ≥ b
  · rw [if_pos h]; congr 1; rw [decide_eq_decide]; omega
  · rw [if_neg h]; congr 1; symm; rw [decide_eq_false_iff_not]; omega
/-- A line of a right device, by its number. -/
def lineOk (s : ByteArray) (l : List S62) (i : Nat) : Prop :=
  (0 ≤ (rd_T62 l i).f0 ∧ (rd_T62 l i).f0 ≤ (s.size : Int) / 64 - 1) ∧ (0 < i → (rd_T62 l ((i : Int) - 1)).f0 < (rd_T62 l i).f0) ∧ (rd_T62 l i).f1.size = 64 ∧ ((rd_T62 l i).f2.size = 64 ∨ (rd_T62 l i).f2.toList = [])
def DevOk (s : ByteArray) (l : List S62) : Prop := ((s.size : Int) % 64 = 0 ∧ 1 ≤ (s.size : Int) / 64 ∧ (s.size : Int) / 64 ≤ 128) ∧ ∀ j, j < l.length → lineOk s l j
/-- The lines from i on. -/
def okFrom (s : ByteArray) (l : List S62) (i : Nat) : Prop := ∀ j, i ≤ j → j < l.length → lineOk s l j
open Classical in
noncomputable def okFromB (s : ByteArray) (l : List S62) (i : Nat) : Bool := decide (okFrom s l i)
open Classical in
noncomputable def devOkB (s : ByteArray) (l : List S62) : Bool := decide (DevOk s l)
open Classical in
theorem okFromB_end (s : ByteArray) (l : List S62) (i : Nat) (h : l.length ≤ i) : okFromB s l i = true := by
  unfold okFromB; exact decide_eq_true (fun j h1 h2 => by omega)
open Classical in
theorem okFromB_no (s : ByteArray) (l : List S62) (i : Nat) (h : i < l.length) (hn : ¬ lineOk s l i) : okFromB s l i = false := by
  unfold okFromB; exact decide_eq_false (fun z => hn (z i (Nat.le_refl i) h))
open Classical in
theorem okFromB_yes (s : ByteArray) (l : List S62) (i : Nat) (hy : lineOk s l i) : okFromB s l i = okFromB s l (i + 1) := by
  unfold okFromB
  congr 1
  refine propext ⟨fun z j h1 h2 => z j (by omega) h2, fun z j h1 h2 => ?_⟩
  by_cases e : j = i
  · subst e; exact hy
  · exact z j (by omega) h2
open Classical in
theorem devOkB_no (s : ByteArray) (l : List S62) (h : ¬ ((s.size : Int) % 64 = 0 ∧ 1 ≤ (s.size : Int) / 64 ∧ (s.size : Int) / 64 ≤ 128)) : devOkB s l = false := by
  unfold devOkB; exact decide_eq_false (fun z => h z.1)
open Classical in
theorem devOkB_go (s : ByteArray) (l : List S62) (h : (s.size : Int) % 64 = 0) (h' : 1 ≤ (s.size : Int) / 64 ∧ (s.size : Int) / 64 ≤ 128) : devOkB s l = okFromB s l 0 := by
  unfold devOkB okFromB
  congr 1
  exact propext ⟨fun z j _ h2 => z.2 j h2, fun z => ⟨⟨h, h'⟩, fun j h2 => z j (Nat.zero_le j) h2⟩⟩
open Classical in
theorem devOkB_iff (s : ByteArray) (l : List S62) : devOkB s l = true ↔ DevOk s l := by
  unfold devOkB; exact decide_eq_true_iff
theorem sDOl (s : ByteArray) (l : List S62) (hs : s.size ≤ 1048576) (hl : l.length ≤ 1048576) : ∀ (n i : Nat), i + n = l.length → Ev (fun k => spec_DeviceOk.l0 k (i : Int) s l) (okFromB s l i) := by
  intro n
  induction n with
  | zero =>
    intro i hi
    rw [okFromB_end s l i (by omega)]
    exact Ev.step (f := fun _ => some true) (fun k => by simp only [spec_DeviceOk.l0]; rw [if_neg (by omega)]) (Ev.now _)
  | succ n ih =>
    intro i hi
    have h := ih (i + 1) (by omega)
    have e1 : wrap64 ((s.size : Int) / 64) = (s.size : Int) / 64 := w64 (by omega) (by omega)
    have e2 : wrap64 ((s.size : Int) / 64 - 1) = (s.size : Int) / 64 - 1 := w64 (by omega) (by omega)
    have e3 : wrap64 ((i : Int) + 1) = ((i + 1 : Nat) : Int) := by rw [w64 (by omega) (by omega)]; rfl
    have e4 : wrap64 ((i : Int) - 1) = (i : Int) - 1 := w64 (by omega) (by omega)
    have no : ¬ lineOk s l i → (∀ k, spec_DeviceOk.l0 (k + 1) (i : Int) s l = some false) → Ev (fun k => spec_DeviceOk.l0 k (i : Int) s l) (okFromB s l i) := by
      intro hn hk
      rw [okFromB_no s l i (by omega) hn]
      exact Ev.step (f := fun _ => some false) hk (Ev.now _)
    have yes : lineOk s l i → (∀ k, spec_DeviceOk.l0 (k + 1) (i : Int) s l = spec_DeviceOk.l0 k ((i + 1 : Nat) : Int) s l) → Ev (fun k => spec_DeviceOk.l0 k (i : Int) s l) (okFromB s l i) := by
      intro hy hk
      rw [okFromB_yes s l i hy]
      exact Ev.step (f := fun k => spec_DeviceOk.l0 k ((i + 1 : Nat) : Int) s l) hk h
    have base : ∀ k, spec_DeviceOk.l0 (k + 1) (i : Int) s l = _ := fun k => by
      simp (implicitDefEqProofs := false) only [spec_DeviceOk.l0, spec_l2Count.f, sIn, Option.bind_some, e1, e2, e3, e4, if_pos (show (i : Int) < (l.length : Int) by omega), if_pos (show (0 : Int) ≤ (i : Int) by omega)]
      rfl
    by_cases c1 : 0 ≤ (rd_T62 l i).f0 ∧ (rd_T62 l i).f0 ≤ (s.size : Int) / 64 - 1
    · have c1' : decide (0 ≤ (rd_T62 l i).f0 ∧ (rd_T62 l i).f0 ≤ (s.size : Int) / 64 - 1) = true := decide_eq_true c1
      have tail : ∀ (hb : 0 < i → (rd_T62 l ((i : Int) - 1)).f0 < (rd_T62 l i).f0) (hk : ∀ k, spec_DeviceOk.l0 (k + 1) (i : Int) s l = (if (((rd_T62 l i).f1).size : Int) = 64 then (if (((rd_T62 l i).f2).size : Int) = 64 then (spec_DeviceOk.l0 k ((i + 1 : Nat) : Int) s l) else (if ((rd_T62 l i).f2).toList = ([] : List UInt8) then (spec_DeviceOk.l0 k ((i + 1 : Nat) : Int) s l) else (some false))) else (some false))), Ev (fun k => spec_DeviceOk.l0 k (i : Int) s l) (okFromB s l i) := by
        intro hb hk
        by_cases c3 : (((rd_T62 l i).f1).size : Int) = 64
        · by_cases c4 : (((rd_T62 l i).f2).size : Int) = 64
          · exact yes ⟨c1, hb, by omega, .inl (by omega)⟩ (fun k => by rw [hk, if_pos c3, if_pos c4])
          · by_cases c5 : ((rd_T62 l i).f2).toList = ([] : List UInt8)
            · exact yes ⟨c1, hb, by omega, .inr c5⟩ (fun k => by rw [hk, if_pos c3, if_neg c4, if_pos c5])
            · exact no (fun z => by rcases z.2.2.2 with z | z; exact c4 (by omega); exact c5 z) (fun k => by rw [hk, if_pos c3, if_neg c4, if_neg c5])
        · exact no (fun z => c3 (by have := z.2.2.1; omega)) (fun k => by rw [hk, if_neg c3])
      by_cases c2 : (i : Int) > 0
      · by_cases c6 : (rd_T62 l i).f0 ≤ (rd_T62 l ((i : Int) - 1)).f0
        · exact no (fun z => by have := z.2.1 (by omega); omega) (fun k => by rw [base, c1', if_pos rfl, if_pos c2, if_pos (by omega), if_pos (by omega), if_pos c6])
        · exact tail (fun _ => by omega) (fun k => by rw [base, c1', if_pos rfl, if_pos c2, if_pos (by omega), if_pos (by omega), if_neg c6])
      · exact tail (fun z => by omega) (fun k => by rw [base, c1', if_pos rfl, if_neg c2])
    · have c1' : decide (0 ≤ (rd_T62 l i).f0 ∧ (rd_T62 l i).f0 ≤ (s.size : Int) / 64 - 1) = false := decide_eq_false c1
      exact no (fun z => c1 z.1) (fun k => by rw [base, c1', if_neg (by decide)])
theorem sDO (s : ByteArray) (l : List S62) (hs : s.size ≤ 1048576) (hl : l.length ≤ 1048576) : Ev (fun k => spec_DeviceOk.f k s l) (devOkB s l) := by
  have h := sDOl s l hs hl l.length 0 (by omega)
  have e1 : wrap64 ((s.size : Int) / 64) = (s.size : Int) / 64 := w64 (by omega) (by omega)
  have jt : Ev (fun k => spec_DeviceOk.j0 k true s l) false := Ev.step (f := fun _ => some false) (fun k => by simp only [spec_DeviceOk.j0, if_true]) (Ev.now _)
  have jf : Ev (fun k => spec_DeviceOk.j0 k false s l) (okFromB s l 0) := Ev.step (f := fun k => spec_DeviceOk.l0 k ((0 : Nat) : Int) s l) (fun k => by simp only [spec_DeviceOk.j0]; rw [if_neg (by decide)]; rfl) h
  unfold spec_DeviceOk.f
  by_cases c : (s.size : Int) % 64 = 0
  · simp only [if_pos c, spec_l2Count.f, sIn, Option.bind_some, e1]
    by_cases d : 1 ≤ (s.size : Int) / 64 ∧ (s.size : Int) / 64 ≤ 128
    · rw [devOkB_go s l c d]; simpa [d] using jf
    · rw [devOkB_no s l (fun z => d z.2)]; simpa [d] using jt
  · simp only [if_neg c]
    rw [devOkB_no s l (fun z => c z.1)]; exact jt
def cv (x : S72) : S62 := ⟨x.f0, x.f1, x.f2⟩
theorem toLineS_l (l : List S72) (hl : l.length ≤ 1048576) : ∀ (n i : Nat), i + n = l.length → Ev (fun k => laws_toLineS.l0 k l ((l.take i).map cv ++ List.replicate n z62) (i : Int)) (l.map cv) := by
  intro n
  induction n with
  | zero =>
    intro i hi
    refine Ev.step (f := fun _ => some (l.map cv)) (fun k => ?_) (Ev.now _)
    simp only [laws_toLineS.l0]
    rw [if_neg (by omega), List.take_of_length_le (by omega)]
    simp
  | succ n ih =>
    intro i hi
    have h := ih (i + 1) (by omega)
    refine Ev.step (f := fun k => laws_toLineS.l0 k l ((l.take (i + 1)).map cv ++ List.replicate n z62) ((i + 1 : Nat) : Int)) (fun k => ?_) h
    simp only [laws_toLineS.l0, laws_toLine.f, Option.bind_some]
    have hlen : ((l.take i).map cv ++ List.replicate (n + 1) z62).length = l.length := by simp; omega
    rw [if_pos (by omega), if_pos (by omega), if_pos (by rw [hlen]; omega), w64 (by omega) (by omega)]
    congr 1
    have hm : ((l.take i).map cv).length = i := by simp; omega
    rw [Int.toNat_natCast, List.set_append_right _ _ (by omega), hm, Nat.sub_self, List.replicate_succ, List.set_cons_zero, List.take_add_one, List.map_append, List.append_assoc]
    congr 1
    have hi' : i < l.length := by omega
    simp [rd_T72, List.getD, hi', cv]
theorem toDevice_ev (s : ByteArray) (l : List S72) (hl : l.length ≤ 1048576) : Ev (fun k => laws_toDevice.f k s l) (s, l.map cv) := by
  have h := toLineS_l l hl l.length 0 (by omega)
  unfold laws_toDevice.f
  refine evThen (g := fun k => laws_toLineS.f k l) (a := l.map cv) (Ev.congr (fun k => ?_) h) (fun k => rfl) (Ev.now _)
  unfold laws_toLineS.f
  rw [if_pos (by omega), if_pos (by omega)]
  simp
theorem iIn (a b c : Int) : impl_within.f a b c = some (decide (b ≤ a ∧ a ≤ c)) := by
  unfold impl_within.f
  by_cases h : a ≥ b
  · rw [if_pos h]; congr 1; rw [decide_eq_decide]; omega
  · rw [if_neg h]; congr 1; symm; rw [decide_eq_false_iff_not]; omega
theorem iDOl (s : ByteArray) (l : List S62) (hs : s.size ≤ 1048576) (hl : l.length ≤ 1048576) : ∀ (n i : Nat), i + n = l.length → Ev (fun k => impl_DeviceOk.l0 k l (l.length : Int) (i : Int) s l) (okFromB s l i) := by
  intro n
  induction n with
  | zero =>
    intro i hi
    rw [okFromB_end s l i (by omega)]
    exact Ev.step (f := fun _ => some true) (fun k => by simp only [impl_DeviceOk.l0]; rw [if_neg (by omega)]) (Ev.now _)
  | succ n ih =>
    intro i hi
    have h := ih (i + 1) (by omega)
    have e1 : wrap64 ((s.size : Int) / 64) = (s.size : Int) / 64 := w64 (by omega) (by omega)
    have e2 : wrap64 ((s.size : Int) / 64 - 1) = (s.size : Int) / 64 - 1 := w64 (by omega) (by omega)
    have e3 : wrap64 ((i : Int) + 1) = ((i + 1 : Nat) : Int) := by rw [w64 (by omega) (by omega)]; rfl
    have e4 : wrap64 ((i : Int) - 1) = (i : Int) - 1 := w64 (by omega) (by omega)
    have no : ¬ lineOk s l i → (∀ k, impl_DeviceOk.l0 (k + 1) l (l.length : Int) (i : Int) s l = some false) → Ev (fun k => impl_DeviceOk.l0 k l (l.length : Int) (i : Int) s l) (okFromB s l i) := by
      intro hn hk
      rw [okFromB_no s l i (by omega) hn]
      exact Ev.step (f := fun _ => some false) hk (Ev.now _)
    have yes : lineOk s l i → (∀ k, impl_DeviceOk.l0 (k + 1) l (l.length : Int) (i : Int) s l = impl_DeviceOk.l0 k l (l.length : Int) ((i + 1 : Nat) : Int) s l) → Ev (fun k => impl_DeviceOk.l0 k l (l.length : Int) (i : Int) s l) (okFromB s l i) := by
      intro hy hk
      rw [okFromB_yes s l i hy]
      exact Ev.step (f := fun k => impl_DeviceOk.l0 k l (l.length : Int) ((i + 1 : Nat) : Int) s l) hk h
    have base : ∀ k, impl_DeviceOk.l0 (k + 1) l (l.length : Int) (i : Int) s l = _ := fun k => by
      simp (implicitDefEqProofs := false) only [impl_DeviceOk.l0, impl_Device_has.f, iIn, Option.bind_some, e1, e2, e3, e4, if_pos (show (i : Int) < (l.length : Int) by omega), if_pos (show (0 : Int) ≤ (i : Int) by omega)]
      rfl
    by_cases c1 : 0 ≤ (rd_T62 l i).f0 ∧ (rd_T62 l i).f0 ≤ (s.size : Int) / 64 - 1
    · have c1' : decide (0 ≤ (rd_T62 l i).f0 ∧ (rd_T62 l i).f0 ≤ (s.size : Int) / 64 - 1) = true := decide_eq_true c1
      have tail : ∀ (hb : 0 < i → (rd_T62 l ((i : Int) - 1)).f0 < (rd_T62 l i).f0) (hk : ∀ k, impl_DeviceOk.l0 (k + 1) l (l.length : Int) (i : Int) s l = (if (((rd_T62 l i).f1).size : Int) = 64 then (if (((rd_T62 l i).f2).size : Int) = 64 then (impl_DeviceOk.l0 k l (l.length : Int) ((i + 1 : Nat) : Int) s l) else (if ((rd_T62 l i).f2).toList = ([] : List UInt8) then (impl_DeviceOk.l0 k l (l.length : Int) ((i + 1 : Nat) : Int) s l) else (some false))) else (some false))), Ev (fun k => impl_DeviceOk.l0 k l (l.length : Int) (i : Int) s l) (okFromB s l i) := by
        intro hb hk
        by_cases c3 : (((rd_T62 l i).f1).size : Int) = 64
        · by_cases c4 : (((rd_T62 l i).f2).size : Int) = 64
          · exact yes ⟨c1, hb, by omega, .inl (by omega)⟩ (fun k => by rw [hk, if_pos c3, if_pos c4])
          · by_cases c5 : ((rd_T62 l i).f2).toList = ([] : List UInt8)
            · exact yes ⟨c1, hb, by omega, .inr c5⟩ (fun k => by rw [hk, if_pos c3, if_neg c4, if_pos c5])
            · exact no (fun z => by rcases z.2.2.2 with z | z; exact c4 (by omega); exact c5 z) (fun k => by rw [hk, if_pos c3, if_neg c4, if_neg c5])
        · exact no (fun z => c3 (by have := z.2.2.1; omega)) (fun k => by rw [hk, if_neg c3])
      by_cases c2 : (i : Int) > 0
      · by_cases c6 : (rd_T62 l i).f0 ≤ (rd_T62 l ((i : Int) - 1)).f0
        · exact no (fun z => by have := z.2.1 (by omega); omega) (fun k => by rw [base, c1', if_pos rfl, if_pos c2, if_pos (by omega), if_pos (by omega), if_pos c6])
        · exact tail (fun _ => by omega) (fun k => by rw [base, c1', if_pos rfl, if_pos c2, if_pos (by omega), if_pos (by omega), if_neg c6])
      · exact tail (fun z => by omega) (fun k => by rw [base, c1', if_pos rfl, if_neg c2])
    · have c1' : decide (0 ≤ (rd_T62 l i).f0 ∧ (rd_T62 l i).f0 ≤ (s.size : Int) / 64 - 1) = false := decide_eq_false c1
      exact no (fun z => c1 z.1) (fun k => by rw [base, c1', if_neg (by decide)])
theorem iDO (s : ByteArray) (l : List S62) (hs : s.size ≤ 1048576) (hl : l.length ≤ 1048576) : Ev (fun k => impl_DeviceOk.f k s l) (devOkB s l) := by
  have h := iDOl s l hs hl l.length 0 (by omega)
  have e1 : wrap64 ((s.size : Int) / 64) = (s.size : Int) / 64 := w64 (by omega) (by omega)
  have jt : Ev (fun k => impl_DeviceOk.j0 k true s l) false := Ev.step (f := fun _ => some false) (fun k => by simp only [impl_DeviceOk.j0, if_true]) (Ev.now _)
  have jf : Ev (fun k => impl_DeviceOk.j0 k false s l) (okFromB s l 0) := Ev.step (f := fun k => impl_DeviceOk.l0 k l (l.length : Int) ((0 : Nat) : Int) s l) (fun k => by simp only [impl_DeviceOk.j0]; rw [if_neg (by decide)]; rfl) h
  unfold impl_DeviceOk.f
  by_cases c : (s.size : Int) % 64 = 0
  · simp only [if_pos c, iIn, Option.bind_some, e1]
    by_cases d : 1 ≤ (s.size : Int) / 64 ∧ (s.size : Int) / 64 ≤ 128
    · rw [devOkB_go s l c d]; simpa [d] using jf
    · rw [devOkB_no s l (fun z => d z.2)]; simpa [d] using jt
  · simp only [if_neg c]
    rw [devOkB_no s l (fun z => c z.1)]; exact jt
theorem eqLine_refl (a : Int) (b c : ByteArray) : laws_eqLine.f a b c a b c = some true := by unfold laws_eqLine.f; simp
theorem eqLineS_l (l : List S62) (hl : l.length ≤ 9223372036854775807) : ∀ (n i : Nat), i + n = l.length → Ev (fun k => laws_eqLineS.l0 k l l (i : Int)) true := by
  intro n
  induction n with
  | zero =>
    intro i hi
    refine Ev.step (f := fun _ => some true) (fun k => ?_) (Ev.now _)
    simp only [laws_eqLineS.l0]
    rw [if_neg (by omega)]
  | succ n ih =>
    intro i hi
    have h := ih (i + 1) (by omega)
    refine Ev.step (f := fun k => laws_eqLineS.l0 k l l ((i + 1 : Nat) : Int)) (fun k => ?_) h
    simp only [laws_eqLineS.l0]
    rw [if_pos (by omega), if_pos (by omega), if_pos (by omega), eqLine_refl, Option.bind_some, if_pos rfl, w64 (by omega) (by omega)]
    rfl
theorem eqDevice_refl (s : ByteArray) (l : List S62) (hl : l.length ≤ 9223372036854775807) : Ev (fun k => laws_eqDevice.f k s l s l) true := by
  unfold laws_eqDevice.f
  refine evThen (g := fun k => laws_eqLineS.f k l l) (Ev.congr (fun k => by unfold laws_eqLineS.f; rw [if_pos rfl]; rfl) (eqLineS_l l hl l.length 0 (by omega))) (f := fun _ t => if t = true then some true else some false) (fun k => by rw [if_pos rfl]) (evIs fun k => by rw [if_pos rfl])
theorem FnExactDeviceOk (s : ByteArray) (l : List S72) (hs : s.size ≤ 9223372036854775807) (hl : l.length ≤ 9223372036854775807) : ∃ k, laws_FnExactDeviceOk.f k s l = some true := by
  refine Ev.rounds (r := true) ?_
  unfold laws_FnExactDeviceOk.f
  obtain ⟨r, hr, hb⟩ := szDevice_ev s l hs hl
  refine evThen hr (fun k => rfl) ?_
  by_cases c : r < 0
  · simp only [if_pos c]; exact Ev.now _
  · obtain ⟨hs', hl'⟩ := hb (by omega)
    have hm : (l.map cv).length ≤ 1048576 := by rw [List.length_map]; exact hl'
    have t := toDevice_ev s l hl'
    simp only [if_neg c]
    refine evThen t (fun k => rfl) (evThen (sDO s (l.map cv) hs' hm) (fun k => rfl) (evThen t (fun k => rfl) (evThen (iDO s (l.map cv) hs' hm) (fun k => rfl) ?_)))
    simp only [bne_self_eq_false, Bool.false_eq_true, if_false]
    exact evThen t (fun k => rfl) (evThen (eqDevice_refl s (l.map cv) (by omega)) (fun k => rfl) (evIs fun k => by rw [if_pos rfl]))
end Go.Proofs.Ytpkekjddhkngcaa.Pure
