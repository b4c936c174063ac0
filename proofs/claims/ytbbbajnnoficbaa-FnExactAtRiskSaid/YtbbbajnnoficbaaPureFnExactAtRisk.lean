/- What the printed functions compute, the program's AtRisk and the reference's give the same answer; no condition. -/
import Derived.Test.YtbbbajnnoficbaaPFnExactAtRiskx1
import Derived.Test.YtbbbajnnoficbaaPFnExactAtRiskx2
import Derived.Test.YtbbbajnnoficbaaPFnExactAtRiskx3
import Derived.Test.YtbbbajnnoficbaaPFnExactAtRiskx4
import Derived.Test.YtbbbajnnoficbaaPFnExactAtRiskx5
import Derived.Test.YtbbbajnnoficbaaPFnExactAtRiskx6
import Derived.Test.YtbbbajnnoficbaaPFnExactAtRiskx7
namespace Go.Proofs.Ytbbbajnnoficbaa.Pure
open Go.RowKit Go.Proofs.Ytbbbajnnoficbaa.PFnExactAtRisk Go.Proofs.YtbbbajnnoficbaaW.PrintWords Go.Proofs.YtbbbajnnoficbaaW.PrintLast
theorem w64 {n : Int} (h0 : -9223372036854775808 ≤ n) (h1 : n ≤ 9223372036854775807) : wrap64 n = n := by unfold wrap64; omega
theorem u64 (n : Int) : IntKind.u64.wrap n = n % 18446744073709551616 := by simp [IntKind.wrap, IntKind.bits, IntKind.signed]
theorem wf64 {n : Int} (h : (Lit.int .i64 n).wf = true) : -9223372036854775808 ≤ n ∧ n ≤ 9223372036854775807 := by
  simp [Lit.wf, IntKind.min, IntKind.max, IntKind.bits, IntKind.signed] at h
  omega
theorem evThen {α β : Type} {g : Nat → Option α} {h : Nat → Option β} {f : Nat → α → Option β} {a : α} {r : β} (e : Ev g a) (he : ∀ k, h k = (g k).bind (f k)) (k : Ev (fun n => f n a) r) : Ev h r := Ev.congr he (Ev.bind e k)
theorem evIs {α : Type} {g : Nat → Option α} {r : α} (h : ∀ k, g k = some r) : Ev g r := ⟨0, fun k _ => h k⟩
theorem szLine_some (a : Int) (b c : ByteArray) (left : Int) : ∃ r, laws_szLine.f a b c left = some r := by
  unfold laws_szLine.f
  split
  · exact ⟨_, rfl⟩
  · split <;> exact ⟨_, rfl⟩
theorem szLineS_l (l : List S92) (hl : l.length ≤ 9223372036854775807) : ∀ (n : Nat) (left : Int) (i : Nat), i + n = l.length → ∃ r, Ev (fun k => laws_szLineS.l0 k l left (i : Int)) r := by
  intro n
  induction n with
  | zero => intro left i hi; exact ⟨left, Ev.step (f := fun _ => some left) (fun k => by simp only [laws_szLineS.l0]; rw [if_neg (by omega)]) (Ev.now _)⟩
  | succ n ih =>
    intro left i hi
    obtain ⟨r, hr⟩ := szLine_some (rd_T92 l i).f0 (rd_T92 l i).f1 (rd_T92 l i).f2 left
    by_cases c : r < 0
    · exact ⟨-1, Ev.step (f := fun _ => some (-1)) (fun k => by simp only [laws_szLineS.l0]; rw [if_pos (by omega), if_pos (by omega), hr, Option.bind_some, if_pos c]) (Ev.now _)⟩
    · obtain ⟨z, hz⟩ := ih r (i + 1) (by omega)
      refine ⟨z, Ev.step (f := fun k => laws_szLineS.l0 k l r ((i + 1 : Nat) : Int)) (fun k => ?_) hz⟩
      simp only [laws_szLineS.l0]
      rw [if_pos (by omega), if_pos (by omega), hr, Option.bind_some, if_neg c, w64 (by omega) (by omega)]
      rfl
theorem szLineS_ev (l : List S92) (hl : l.length ≤ 9223372036854775807) (left : Int) (h0 : left ≤ 1048576) (h1 : 0 ≤ left) : ∃ r, Ev (fun k => laws_szLineS.f k l left) r ∧ (0 ≤ r → l.length ≤ 1048576) := by
  by_cases c : wrap64 (left - (l.length : Int)) < 0
  · exact ⟨-1, evIs fun k => by unfold laws_szLineS.f; rw [if_pos c], by omega⟩
  · obtain ⟨r, hr⟩ := szLineS_l l hl l.length (wrap64 (left - (l.length : Int))) 0 (by omega)
    refine ⟨r, Ev.congr (fun k => by unfold laws_szLineS.f; rw [if_neg c]; rfl) hr, fun _ => ?_⟩
    rw [w64 (by omega) (by omega)] at c
    omega
theorem szDevice_ev (s : ByteArray) (l : List S92) (hs : s.size ≤ 9223372036854775807) (hl : l.length ≤ 9223372036854775807) : ∃ r, Ev (fun k => laws_szDevice.f k s l 1048576) r ∧ (0 ≤ r → s.size ≤ 1048576 ∧ l.length ≤ 1048576) := by
  by_cases c : wrap64 (1048576 - (s.size : Int)) < 0
  · exact ⟨-1, evIs fun k => by unfold laws_szDevice.f; rw [if_pos c], by omega⟩
  · have c' := c
    rw [w64 (by omega) (by omega)] at c'
    have e : wrap64 (1048576 - (s.size : Int)) = 1048576 - (s.size : Int) := w64 (by omega) (by omega)
    obtain ⟨r, hr, hb⟩ := szLineS_ev l hl (wrap64 (1048576 - (s.size : Int))) (by omega) (by omega)
    by_cases d : r < 0
    · exact ⟨-1, evThen hr (fun k => by unfold laws_szDevice.f; rw [if_neg c]) (evIs fun k => by rw [if_pos d]), by omega⟩
    · exact ⟨r, evThen hr (fun k => by unfold laws_szDevice.f; rw [if_neg c]) (evIs fun k => by rw [if_neg d]), fun _ => ⟨by omega, hb (by omega)⟩⟩
theorem sIn (a b c : Int) : spec_l1In.f a b c = some (decide (b ≤ a ∧ a ≤ c)) := by
  unfold spec_l1In.f
  by_cases h : a ≥ b
  · rw [if_pos h]; congr 1; rw [decide_eq_decide]; omega
  · rw [if_neg h]; congr 1; symm; rw [decide_eq_false_iff_not]; omega
/-- A line of a right device, by its number. -/
def lineOk (s : ByteArray) (l : List S67) (i : Nat) : Prop :=
  (0 ≤ (rd_T67 l i).f0 ∧ (rd_T67 l i).f0 ≤ (s.size : Int) / 64 - 1) ∧ (0 < i → (rd_T67 l ((i : Int) - 1)).f0 < (rd_T67 l i).f0) ∧ (rd_T67 l i).f1.size = 64 ∧ ((rd_T67 l i).f2.size = 64 ∨ (rd_T67 l i).f2.toList = [])
def DevOk (s : ByteArray) (l : List S67) : Prop := ((s.size : Int) % 64 = 0 ∧ 1 ≤ (s.size : Int) / 64 ∧ (s.size : Int) / 64 ≤ 128) ∧ ∀ j, j < l.length → lineOk s l j
/-- The lines from i on. -/
def okFrom (s : ByteArray) (l : List S67) (i : Nat) : Prop := ∀ j, i ≤ j → j < l.length → lineOk s l j
open Classical in
noncomputable def okFromB (s : ByteArray) (l : List S67) (i : Nat) : Bool := decide (okFrom s l i)
open Classical in
noncomputable def devOkB (s : ByteArray) (l : List S67) : Bool := decide (DevOk s l)
open Classical in
theorem okFromB_end (s : ByteArray) (l : List S67) (i : Nat) (h : l.length ≤ i) : okFromB s l i = true := by
  unfold okFromB; exact decide_eq_true (fun j h1 h2 => by omega)
open Classical in
theorem okFromB_no (s : ByteArray) (l : List S67) (i : Nat) (h : i < l.length) (hn : ¬ lineOk s l i) : okFromB s l i = false := by
  unfold okFromB; exact decide_eq_false (fun z => hn (z i (Nat.le_refl i) h))
open Classical in
theorem okFromB_yes (s : ByteArray) (l : List S67) (i : Nat) (hy : lineOk s l i) : okFromB s l i = okFromB s l (i + 1) := by
  unfold okFromB
  congr 1
  refine propext ⟨fun z j h1 h2 => z j (by omega) h2, fun z j h1 h2 => ?_⟩
  by_cases e : j = i
  · subst e; exact hy
  · exact z j (by omega) h2
open Classical in
theorem devOkB_no (s : ByteArray) (l : List S67) (h : ¬ ((s.size : Int) % 64 = 0 ∧ 1 ≤ (s.size : Int) / 64 ∧ (s.size : Int) / 64 ≤ 128)) : devOkB s l = false := by
  unfold devOkB; exact decide_eq_false (fun z => h z.1)
open Classical in
theorem devOkB_go (s : ByteArray) (l : List S67) (h : (s.size : Int) % 64 = 0) (h' : 1 ≤ (s.size : Int) / 64 ∧ (s.size : Int) / 64 ≤ 128) : devOkB s l = okFromB s l 0 := by
  unfold devOkB okFromB
  congr 1
  exact propext ⟨fun z j _ h2 => z.2 j h2, fun z => ⟨⟨h, h'⟩, fun j h2 => z j (Nat.zero_le j) h2⟩⟩
open Classical in
theorem devOkB_iff (s : ByteArray) (l : List S67) : devOkB s l = true ↔ DevOk s l := by
  unfold devOkB; exact decide_eq_true_iff
theorem sDOl (s : ByteArray) (l : List S67) (hs : s.size ≤ 1048576) (hl : l.length ≤ 1048576) : ∀ (n i : Nat), i + n = l.length → Ev (fun k => spec_DeviceOk.l0 k (i : Int) s l) (okFromB s l i) := by
  intro n
  induction n with
  | zero =>
    intro i hi
    rw [okFromB_end s l i (by omega)]
    exact Ev.step (f := fun _ => some true) (fun k => by simp only [spec_DeviceOk.l0]; rw [if_neg (by omega)]) (Ev.now _)
  | succ n ih =>
    intro i hi
    have h := ih (i + 1) (by omega)
    have e1 : wrap64 ((s.size : Int) / 64) = (s.size : Int) / 64 := w64 (by omega) (by omega)
    have e2 : wrap64 ((s.size : Int) / 64 - 1) = (s.size : Int) / 64 - 1 := w64 (by omega) (by omega)
    have e3 : wrap64 ((i : Int) + 1) = ((i + 1 : Nat) : Int) := by rw [w64 (by omega) (by omega)]; rfl
    have e4 : wrap64 ((i : Int) - 1) = (i : Int) - 1 := w64 (by omega) (by omega)
    have no : ¬ lineOk s l i → (∀ k, spec_DeviceOk.l0 (k + 1) (i : Int) s l = some false) → Ev (fun k => spec_DeviceOk.l0 k (i : Int) s l) (okFromB s l i) := by
      intro hn hk
      rw [okFromB_no s l i (by omega) hn]
      exact Ev.step (f := fun _ => some false) hk (Ev.now _)
    have yes : lineOk s l i → (∀ k, spec_DeviceOk.l0 (k + 1) (i : Int) s l = spec_DeviceOk.l0 k ((i + 1 : Nat) : Int) s l) → Ev (fun k => spec_DeviceOk.l0 k (i : Int) s l) (okFromB s l i) := by
      intro hy hk
      rw [okFromB_yes s l i hy]
      exact Ev.step (f := fun k => spec_DeviceOk.l0 k ((i + 1 : Nat) : Int) s l) hk h
    have base : ∀ k, spec_DeviceOk.l0 (k + 1) (i : Int) s l = _ := fun k => by
      simp (implicitDefEqProofs := false) only [spec_DeviceOk.l0, spec_l2Count.f, sIn, Option.bind_some, e1, e2, e3, e4, if_pos (show (i : Int) < (l.length : Int) by omega), if_pos (show (0 : Int) ≤ (i : Int) by omega)]
      rfl
    by_cases c1 : 0 ≤ (rd_T67 l i).f0 ∧ (rd_T67 l i).f0 ≤ (s.size : Int) / 64 - 1
    · have c1' : decide (0 ≤ (rd_T67 l i).f0 ∧ (rd_T67 l i).f0 ≤ (s.size : Int) / 64 - 1) = true := decide_eq_true c1
      have tail : ∀ (hb : 0 < i → (rd_T67 l ((i : Int) - 1)).f0 < (rd_T67 l i).f0) (hk : ∀ k, spec_DeviceOk.l0 (k + 1) (i : Int) s l = (if (((rd_T67 l i).f1).size : Int) = 64 then (if (((rd_T67 l i).f2).size : Int) = 64 then (spec_DeviceOk.l0 k ((i + 1 : Nat) : Int) s l) else (if ((rd_T67 l i).f2).toList = ([] : List UInt8) then (spec_DeviceOk.l0 k ((i + 1 : Nat) : Int) s l) else (some false))) else (some false))), Ev (fun k => spec_DeviceOk.l0 k (i : Int) s l) (okFromB s l i) := by
        intro hb hk
        by_cases c3 : (((rd_T67 l i).f1).size : Int) = 64
        · by_cases c4 : (((rd_T67 l i).f2).size : Int) = 64
          · exact yes ⟨c1, hb, by omega, .inl (by omega)⟩ (fun k => by rw [hk, if_pos c3, if_pos c4])
          · by_cases c5 : ((rd_T67 l i).f2).toList = ([] : List UInt8)
            · exact yes ⟨c1, hb, by omega, .inr c5⟩ (fun k => by rw [hk, if_pos c3, if_neg c4, if_pos c5])
            · exact no (fun z => by rcases z.2.2.2 with z | z; exact c4 (by omega); exact c5 z) (fun k => by rw [hk, if_pos c3, if_neg c4, if_neg c5])
        · exact no (fun z => c3 (by have := z.2.2.1; omega)) (fun k => by rw [hk, if_neg c3])
      by_cases c2 : (i : Int) > 0
      · by_cases c6 : (rd_T67 l i).f0 ≤ (rd_T67 l ((i : Int) - 1)).f0
        · exact no (fun z => by have := z.2.1 (by omega); omega) (fun k => by rw [base, c1', if_pos rfl, if_pos c2, if_pos (by omega), if_pos (by omega), if_pos c6])
        · exact tail (fun _ => by omega) (fun k => by rw [base, c1', if_pos rfl, if_pos c2, if_pos (by omega), if_pos (by omega), if_neg c6])
      · exact tail (fun z => by omega) (fun k => by rw [base, c1', if_pos rfl, if_neg c2])
    · have c1' : decide (0 ≤ (rd_T67 l i).f0 ∧ (rd_T67 l i).f0 ≤ (s.size : Int) / 64 - 1) = false := decide_eq_false c1
      exact no (fun z => c1 z.1) (fun k => by rw [base, c1', if_neg (by decide)])
theorem sDO (s : ByteArray) (l : List S67) (hs : s.size ≤ 1048576) (hl : l.length ≤ 1048576) : Ev (fun k => spec_DeviceOk.f k s l) (devOkB s l) := by
  have h := sDOl s l hs hl l.length 0 (by omega)
  have e1 : wrap64 ((s.size : Int) / 64) = (s.size : Int) / 64 := w64 (by omega) (by omega)
  have jt : Ev (fun k => spec_DeviceOk.j0 k true s l) false := Ev.step (f := fun _ => some false) (fun k => by simp only [spec_DeviceOk.j0, if_true]) (Ev.now _)
  have jf : Ev (fun k => spec_DeviceOk.j0 k false s l) (okFromB s l 0) := Ev.step (f := fun k => spec_DeviceOk.l0 k ((0 : Nat) : Int) s l) (fun k => by simp only [spec_DeviceOk.j0]; rw [if_neg (by decide)]; rfl) h
  unfold spec_DeviceOk.f
  by_cases c : (s.size : Int) % 64 = 0
  · simp only [if_pos c, spec_l2Count.f, sIn, Option.bind_some, e1]
    by_cases d : 1 ≤ (s.size : Int) / 64 ∧ (s.size : Int) / 64 ≤ 128
    · rw [devOkB_go s l c d]; simpa [d] using jf
    · rw [devOkB_no s l (fun z => d z.2)]; simpa [d] using jt
  · simp only [if_neg c]
    rw [devOkB_no s l (fun z => c z.1)]; exact jt
def safeL (s : ByteArray) (a : Int) : ByteArray := s.extract (64 * a).toNat (64 * a + 64).toNat
def risk (s : ByteArray) (xs : List S67) : List Int := (xs.filter (fun x => decide (¬ x.f1.toList = (safeL s x.f0).toList))).map (fun x => x.f0)
theorem rd_nat (l : List S67) (i : Nat) (h : i < l.length) : rd_T67 l (i : Int) = l[i] := by simp [rd_T67, List.getD, h]
theorem risk_step (s : ByteArray) (l : List S67) (i : Nat) (h : i < l.length) : risk s (l.drop i) = if (rd_T67 l i).f1.toList = (safeL s (rd_T67 l i).f0).toList then risk s (l.drop (i + 1)) else (rd_T67 l i).f0 :: risk s (l.drop (i + 1)) := by
  rw [rd_nat l i h, List.drop_eq_getElem_cons h]
  generalize List.drop (i + 1) l = t
  generalize l[i] = x
  unfold risk
  by_cases c : x.f1.toList = (safeL s x.f0).toList <;> simp [c]
theorem line_at {s : ByteArray} {l : List S67} (hd : DevOk s l) {i : Nat} (h : i < l.length) : 0 ≤ (rd_T67 l i).f0 ∧ 64 * (rd_T67 l i).f0 + 64 ≤ (s.size : Int) := by
  have z := (hd.2 i h).1
  have := hd.1
  omega
noncomputable def riskP (s : ByteArray) (l : List S67) : List Int := open Classical in if DevOk s l then risk s l else []
theorem sAR_l (s : ByteArray) (l : List S67) (hd : DevOk s l) (hs : s.size ≤ 1048576) (hl : l.length ≤ 1048576) : ∀ (n i : Nat) (acc : List Int), i + n = l.length → acc.length ≤ i → Ev (fun k => spec_AtRisk.l0 k acc (i : Int) s l) (acc ++ risk s (l.drop i)) := by
  intro n
  induction n with
  | zero =>
    intro i acc hi _
    rw [List.drop_of_length_le (by omega)]
    exact Ev.step (f := fun _ => some (acc ++ risk s [])) (fun k => by simp only [spec_AtRisk.l0]; rw [if_neg (by omega)]; simp [risk]) (Ev.now _)
  | succ n ih =>
    intro i acc hi ha
    have hz := line_at hd (i := i) (by omega)
    have e1 : wrap64 (64 * (rd_T67 l i).f0) = 64 * (rd_T67 l i).f0 := w64 (by omega) (by omega)
    have e2 : wrap64 (64 * (rd_T67 l i).f0 + 64) = 64 * (rd_T67 l i).f0 + 64 := w64 (by omega) (by omega)
    have e3 : wrap64 ((i : Int) + 1) = ((i + 1 : Nat) : Int) := by rw [w64 (by omega) (by omega)]; rfl
    rw [risk_step s l i (by omega)]
    by_cases c : (rd_T67 l i).f1.toList = (safeL s (rd_T67 l i).f0).toList
    · rw [if_pos c]
      have c' := c
      unfold safeL at c'
      refine Ev.step (f := fun k => spec_AtRisk.l0 k acc ((i + 1 : Nat) : Int) s l) (fun k => ?_) (ih (i + 1) acc (by omega) (by omega))
      simp only [spec_AtRisk.l0, e1, e2, e3]
      rw [if_pos (by omega), if_pos (by omega), if_pos (by omega), if_pos (by omega), if_pos (by omega), if_pos c']
    · rw [if_neg c]
      have c' := c
      unfold safeL at c'
      have h := ih (i + 1) (acc ++ [(rd_T67 l i).f0]) (by omega) (by simp; omega)
      rw [List.append_assoc] at h
      refine Ev.step (f := fun k => spec_AtRisk.l0 k (acc ++ [(rd_T67 l i).f0]) ((i + 1 : Nat) : Int) s l) (fun k => ?_) h
      simp only [spec_AtRisk.l0, e1, e2, e3]
      rw [if_pos (by omega), if_pos (by omega), if_pos (by omega), if_pos (by omega), if_pos (by omega), if_neg c', if_pos (by omega)]
theorem sAR (s : ByteArray) (l : List S67) (hs : s.size ≤ 1048576) (hl : l.length ≤ 1048576) : Ev (fun k => spec_AtRisk.f k s l) (riskP s l) := by
  unfold spec_AtRisk.f riskP
  refine evThen (sDO s l hs hl) (fun k => rfl) ?_
  by_cases c : DevOk s l
  · simp only [if_pos ((devOkB_iff s l).2 c), if_pos c]
    exact sAR_l s l c hs hl l.length 0 [] (by omega) (by simp)
  · have : ¬ devOkB s l = true := fun z => c ((devOkB_iff s l).1 z)
    simp only [if_neg this, if_neg c]; exact Ev.now _
def cv (x : S92) : S67 := ⟨x.f0, x.f1, x.f2⟩
theorem toLineS_l (l : List S92) (hl : l.length ≤ 1048576) : ∀ (n i : Nat), i + n = l.length → Ev (fun k => laws_toLineS.l0 k l ((l.take i).map cv ++ List.replicate n z67) (i : Int)) (l.map cv) := by
  intro n
  induction n with
  | zero =>
    intro i hi
    refine Ev.step (f := fun _ => some (l.map cv)) (fun k => ?_) (Ev.now _)
    simp only [laws_toLineS.l0]
    rw [if_neg (by omega), List.take_of_length_le (by omega)]
    simp
  | succ n ih =>
    intro i hi
    have h := ih (i + 1) (by omega)
    refine Ev.step (f := fun k => laws_toLineS.l0 k l ((l.take (i + 1)).map cv ++ List.replicate n z67) ((i + 1 : Nat) : Int)) (fun k => ?_) h
    simp only [laws_toLineS.l0, laws_toLine.f, Option.bind_some]
    have hlen : ((l.take i).map cv ++ List.replicate (n + 1) z67).length = l.length := by simp; omega
    rw [if_pos (by omega), if_pos (by omega), if_pos (by rw [hlen]; omega), w64 (by omega) (by omega)]
    congr 1
    have hm : ((l.take i).map cv).length = i := by simp; omega
    rw [Int.toNat_natCast, List.set_append_right _ _ (by omega), hm, Nat.sub_self, List.replicate_succ, List.set_cons_zero, List.take_add_one, List.map_append, List.append_assoc]
    congr 1
    have hi' : i < l.length := by omega
    simp [rd_T92, List.getD, hi', cv]
theorem toDevice_ev (s : ByteArray) (l : List S92) (hl : l.length ≤ 1048576) : Ev (fun k => laws_toDevice.f k s l) (s, l.map cv) := by
  have h := toLineS_l l hl l.length 0 (by omega)
  unfold laws_toDevice.f
  refine evThen (g := fun k => laws_toLineS.f k l) (a := l.map cv) (Ev.congr (fun k => ?_) h) (fun k => rfl) (Ev.now _)
  unfold laws_toLineS.f
  rw [if_pos (by omega), if_pos (by omega)]
  simp
theorem iIn (a b c : Int) : impl_within.f a b c = some (decide (b ≤ a ∧ a ≤ c)) := by
  unfold impl_within.f
  by_cases h : a ≥ b
  · rw [if_pos h]; congr 1; rw [decide_eq_decide]; omega
  · rw [if_neg h]; congr 1; symm; rw [decide_eq_false_iff_not]; omega
theorem iDOl (s : ByteArray) (l : List S67) (hs : s.size ≤ 1048576) (hl : l.length ≤ 1048576) : ∀ (n i : Nat), i + n = l.length → Ev (fun k => impl_DeviceOk.l0 k l (l.length : Int) (i : Int) s l) (okFromB s l i) := by
  intro n
  induction n with
  | zero =>
    intro i hi
    rw [okFromB_end s l i (by omega)]
    exact Ev.step (f := fun _ => some true) (fun k => by simp only [impl_DeviceOk.l0]; rw [if_neg (by omega)]) (Ev.now _)
  | succ n ih =>
    intro i hi
    have h := ih (i + 1) (by omega)
    have e1 : wrap64 ((s.size : Int) / 64) = (s.size : Int) / 64 := w64 (by omega) (by omega)
    have e2 : wrap64 ((s.size : Int) / 64 - 1) = (s.size : Int) / 64 - 1 := w64 (by omega) (by omega)
    have e3 : wrap64 ((i : Int) + 1) = ((i + 1 : Nat) : Int) := by rw [w64 (by omega) (by omega)]; rfl
    have e4 : wrap64 ((i : Int) - 1) = (i : Int) - 1 := w64 (by omega) (by omega)
    have no : ¬ lineOk s l i → (∀ k, impl_DeviceOk.l0 (k + 1) l (l.length : Int) (i : Int) s l = some false) → Ev (fun k => impl_DeviceOk.l0 k l (l.length : Int) (i : Int) s l) (okFromB s l i) := by
      intro hn hk
      rw [okFromB_no s l i (by omega) hn]
      exact Ev.step (f := fun _ => some false) hk (Ev.now _)
    have yes : lineOk s l i → (∀ k, impl_DeviceOk.l0 (k + 1) l (l.length : Int) (i : Int) s l = impl_DeviceOk.l0 k l (l.length : Int) ((i + 1 : Nat) : Int) s l) → Ev (fun k => impl_DeviceOk.l0 k l (l.length : Int) (i : Int) s l) (okFromB s l i) := by
      intro hy hk
      rw [okFromB_yes s l i hy]
      exact Ev.step (f := fun k => impl_DeviceOk.l0 k l (l.length : Int) ((i + 1 : Nat) : Int) s l) hk h
    have base : ∀ k, impl_DeviceOk.l0 (k + 1) l (l.length : Int) (i : Int) s l = _ := fun k => by
      simp (implicitDefEqProofs := false) only [impl_DeviceOk.l0, impl_Device_has.f, iIn, Option.bind_some, e1, e2, e3, e4, if_pos (show (i : Int) < (l.length : Int) by omega), if_pos (show (0 : Int) ≤ (i : Int) by omega)]
      rfl
    by_cases c1 : 0 ≤ (rd_T67 l i).f0 ∧ (rd_T67 l i).f0 ≤ (s.size : Int) / 64 - 1
    · have c1' : decide (0 ≤ (rd_T67 l i).f0 ∧ (rd_T67 l i).f0 ≤ (s.size : Int) / 64 - 1) = true := decide_eq_true c1
      have tail : ∀ (hb : 0 < i → (rd_T67 l ((i : Int) - 1)).f0 < (rd_T67 l i).f0) (hk : ∀ k, impl_DeviceOk.l0 (k + 1) l (l.length : Int) (i : Int) s l = (if (((rd_T67 l i).f1).size : Int) = 64 then (if (((rd_T67 l i).f2).size : Int) = 64 then (impl_DeviceOk.l0 k l (l.length : Int) ((i + 1 : Nat) : Int) s l) else (if ((rd_T67 l i).f2).toList = ([] : List UInt8) then (impl_DeviceOk.l0 k l (l.length : Int) ((i + 1 : Nat) : Int) s l) else (some false))) else (some false))), Ev (fun k => impl_DeviceOk.l0 k l (l.length : Int) (i : Int) s l) (okFromB s l i) := by
        intro hb hk
        by_cases c3 : (((rd_T67 l i).f1).size : Int) = 64
        · by_cases c4 : (((rd_T67 l i).f2).size : Int) = 64
          · exact yes ⟨c1, hb, by omega, .inl (by omega)⟩ (fun k => by rw [hk, if_pos c3, if_pos c4])
          · by_cases c5 : ((rd_T67 l i).f2).toList = ([] : List UInt8)
            · exact yes ⟨c1, hb, by omega, .inr c5⟩ (fun k => by rw [hk, if_pos c3, if_neg c4, if_pos c5])
            · exact no (fun z => by rcases z.2.2.2 with z | z; exact c4 (by omega); exact c5 z) (fun k => by rw [hk, if_pos c3, if_neg c4, if_neg c5])
        · exact no (fun z => c3 (by have := z.2.2.1; omega)) (fun k => by rw [hk, if_neg c3])
      by_cases c2 : (i : Int) > 0
      · by_cases c6 : (rd_T67 l i).f0 ≤ (rd_T67 l ((i : Int) - 1)).f0
        · exact no (fun z => by have := z.2.1 (by omega); omega) (fun k => by rw [base, c1', if_pos rfl, if_pos c2, if_pos (by omega), if_pos (by omega), if_pos c6])
        · exact tail (fun _ => by omega) (fun k => by rw [base, c1', if_pos rfl, if_pos c2, if_pos (by omega), if_pos (by omega), if_neg c6])
      · exact tail (fun z => by omega) (fun k => by rw [base, c1', if_pos rfl, if_neg c2])
    · have c1' : decide (0 ≤ (rd_T67 l i).f0 ∧ (rd_T67 l i).f0 ≤ (s.size : Int) / 64 - 1) = false := decide_eq_false c1
      exact no (fun z => c1 z.1) (fun k => by rw [base, c1', if_neg (by decide)])
theorem iDO (s : ByteArray) (l : List S67) (hs : s.size ≤ 1048576) (hl : l.length ≤ 1048576) : Ev (fun k => impl_DeviceOk.f k s l) (devOkB s l) := by
  have h := iDOl s l hs hl l.length 0 (by omega)
  have e1 : wrap64 ((s.size : Int) / 64) = (s.size : Int) / 64 := w64 (by omega) (by omega)
  have jt : Ev (fun k => impl_DeviceOk.j0 k true s l) false := Ev.step (f := fun _ => some false) (fun k => by simp only [impl_DeviceOk.j0, if_true]) (Ev.now _)
  have jf : Ev (fun k => impl_DeviceOk.j0 k false s l) (okFromB s l 0) := Ev.step (f := fun k => impl_DeviceOk.l0 k l (l.length : Int) ((0 : Nat) : Int) s l) (fun k => by simp only [impl_DeviceOk.j0]; rw [if_neg (by decide)]; rfl) h
  unfold impl_DeviceOk.f
  by_cases c : (s.size : Int) % 64 = 0
  · simp only [if_pos c, iIn, Option.bind_some, e1]
    by_cases d : 1 ≤ (s.size : Int) / 64 ∧ (s.size : Int) / 64 ≤ 128
    · rw [devOkB_go s l c d]; simpa [d] using jf
    · rw [devOkB_no s l (fun z => d z.2)]; simpa [d] using jt
  · simp only [if_neg c]
    rw [devOkB_no s l (fun z => c z.1)]; exact jt
theorem iAR_l (s : ByteArray) (l : List S67) (hd : DevOk s l) (hs : s.size ≤ 1048576) (hl : l.length ≤ 1048576) : ∀ (n i : Nat) (acc : List Int), i + n = l.length → acc.length ≤ i → Ev (fun k => impl_AtRisk.l0 k acc l (l.length : Int) (i : Int) s l) (acc ++ risk s (l.drop i)) := by
  intro n
  induction n with
  | zero =>
    intro i acc hi _
    rw [List.drop_of_length_le (by omega)]
    exact Ev.step (f := fun _ => some (acc ++ risk s [])) (fun k => by simp only [impl_AtRisk.l0]; rw [if_neg (by omega)]; simp [risk]) (Ev.now _)
  | succ n ih =>
    intro i acc hi ha
    have hz := line_at hd (i := i) (by omega)
    have e1 : wrap64 (64 * (rd_T67 l i).f0) = 64 * (rd_T67 l i).f0 := w64 (by omega) (by omega)
    have e2 : wrap64 (64 * (rd_T67 l i).f0 + 64) = 64 * (rd_T67 l i).f0 + 64 := w64 (by omega) (by omega)
    have e3 : wrap64 ((i : Int) + 1) = ((i + 1 : Nat) : Int) := by rw [w64 (by omega) (by omega)]; rfl
    rw [risk_step s l i (by omega)]
    by_cases c : (rd_T67 l i).f1.toList = (safeL s (rd_T67 l i).f0).toList
    · rw [if_pos c]
      have c' := c
      unfold safeL at c'
      refine Ev.step (f := fun k => impl_AtRisk.l0 k acc l (l.length : Int) ((i + 1 : Nat) : Int) s l) (fun k => ?_) (ih (i + 1) acc (by omega) (by omega))
      simp only [impl_AtRisk.l0, impl_Device_safeLine.f, e1, e2, e3, if_pos (show 0 ≤ 64 * (rd_T67 l i).f0 by omega), if_pos (show 64 * (rd_T67 l i).f0 ≤ 64 * (rd_T67 l i).f0 + 64 by omega), if_pos hz.2, Option.bind_some]
      rw [if_pos (by omega), if_pos (by omega), if_pos (by omega), if_pos c']
    · rw [if_neg c]
      have c' := c
      unfold safeL at c'
      have h := ih (i + 1) (acc ++ [(rd_T67 l i).f0]) (by omega) (by simp; omega)
      rw [List.append_assoc] at h
      refine Ev.step (f := fun k => impl_AtRisk.l0 k (acc ++ [(rd_T67 l i).f0]) l (l.length : Int) ((i + 1 : Nat) : Int) s l) (fun k => ?_) h
      simp only [impl_AtRisk.l0, impl_Device_safeLine.f, e1, e2, e3, if_pos (show 0 ≤ 64 * (rd_T67 l i).f0 by omega), if_pos (show 64 * (rd_T67 l i).f0 ≤ 64 * (rd_T67 l i).f0 + 64 by omega), if_pos hz.2, Option.bind_some]
      rw [if_pos (by omega), if_pos (by omega), if_pos (by omega), if_neg c', if_pos (by omega)]
theorem iAR (s : ByteArray) (l : List S67) (hs : s.size ≤ 1048576) (hl : l.length ≤ 1048576) : Ev (fun k => impl_AtRisk.f k s l) (riskP s l) := by
  unfold impl_AtRisk.f riskP
  refine evThen (iDO s l hs hl) (fun k => rfl) ?_
  by_cases c : DevOk s l
  · simp only [if_pos ((devOkB_iff s l).2 c), if_pos c]
    exact iAR_l s l c hs hl l.length 0 [] (by omega) (by simp)
  · have : ¬ devOkB s l = true := fun z => c ((devOkB_iff s l).1 z)
    simp only [if_neg this, if_neg c]; exact Ev.now _
theorem eqInts_l (l : List Int) (hl : l.length ≤ 9223372036854775807) : ∀ (n i : Nat), i + n = l.length → Ev (fun k => laws_eqInt64S.l0 k l l (i : Int)) true := by
  intro n
  induction n with
  | zero =>
    intro i hi
    exact Ev.step (f := fun _ => some true) (fun k => by simp only [laws_eqInt64S.l0]; rw [if_neg (by omega)]) (Ev.now _)
  | succ n ih =>
    intro i hi
    refine Ev.step (f := fun k => laws_eqInt64S.l0 k l l ((i + 1 : Nat) : Int)) (fun k => ?_) (ih (i + 1) (by omega))
    simp only [laws_eqInt64S.l0]
    rw [if_pos (by omega), if_pos (by omega), if_pos (by omega), if_pos trivial, w64 (by omega) (by omega)]
    rfl
theorem eqInts_refl (l : List Int) (hl : l.length ≤ 9223372036854775807) : Ev (fun k => laws_eqInt64S.f k l l) true :=
  Ev.congr (fun k => by unfold laws_eqInt64S.f; rw [if_pos rfl]; rfl) (eqInts_l l hl l.length 0 (by omega))
theorem eqLine_refl (a : Int) (b c : ByteArray) : laws_eqLine.f a b c a b c = some true := by unfold laws_eqLine.f; simp
theorem eqLineS_l (l : List S67) (hl : l.length ≤ 9223372036854775807) : ∀ (n i : Nat), i + n = l.length → Ev (fun k => laws_eqLineS.l0 k l l (i : Int)) true := by
  intro n
  induction n with
  | zero =>
    intro i hi
    refine Ev.step (f := fun _ => some true) (fun k => ?_) (Ev.now _)
    simp only [laws_eqLineS.l0]
    rw [if_neg (by omega)]
  | succ n ih =>
    intro i hi
    have h := ih (i + 1) (by omega)
    refine Ev.step (f := fun k => laws_eqLineS.l0 k l l ((i + 1 : Nat) : Int)) (fun k => ?_) h
    simp only [laws_eqLineS.l0]
    rw [if_pos (by omega), if_pos (by omega), if_pos (by omega), eqLine_refl, Option.bind_some, if_pos rfl, w64 (by omega) (by omega)]
    rfl
theorem eqDevice_refl (s : ByteArray) (l : List S67) (hl : l.length ≤ 9223372036854775807) : Ev (fun k => laws_eqDevice.f k s l s l) true := by
  unfold laws_eqDevice.f
  refine evThen (g := fun k => laws_eqLineS.f k l l) (Ev.congr (fun k => by unfold laws_eqLineS.f; rw [if_pos rfl]; rfl) (eqLineS_l l hl l.length 0 (by omega))) (f := fun _ t => if t = true then some true else some false) (fun k => by rw [if_pos rfl]) (evIs fun k => by rw [if_pos rfl])
theorem markText_l : ∀ (n : Nat) (x : Int) (t : ByteArray), x < 10 ^ n → x ≤ 1000000000 → t.size + n ≤ 1000 → ∃ r, Ev (fun k => laws_markText.l0 k x t) r := by
  intro n
  induction n with
  | zero =>
    intro x t h _ ht
    exact ⟨_, Ev.step (f := fun _ => some _) (fun k => by simp only [laws_markText.l0]; rw [if_neg (by simp at h; omega), if_pos (by omega)]) (Ev.now _)⟩
  | succ n ih =>
    intro x t h hx ht
    by_cases c : x > 0
    · have hs : ∀ z : Int, (strOfNums [z]).size = 1 := fun z => by rw [strOfNums_size]; rfl
      have hd : Int.tdiv x 10 = x / 10 := Int.tdiv_eq_ediv_of_nonneg (by omega)
      obtain ⟨r, hr⟩ := ih (x / 10) (strOfNums [(wrap64 (48 + (Int.tmod x 10))) % 256] ++ t) (by rw [Int.pow_succ] at h; omega) (by omega) (by rw [ByteArray.size_append, hs]; omega)
      refine ⟨r, Ev.step (f := fun k => laws_markText.l0 k (x / 10) (strOfNums [(wrap64 (48 + (Int.tmod x 10))) % 256] ++ t)) (fun k => ?_) hr⟩
      simp only [laws_markText.l0]
      rw [if_pos c, Option.bind_some, if_pos (by rw [hs]; omega), hd, w64 (by omega) (by omega)]
    · exact ⟨_, Ev.step (f := fun _ => some _) (fun k => by simp only [laws_markText.l0]; rw [if_neg c, if_pos (by omega)]) (Ev.now _)⟩
theorem markText_ev (a : Int) (h : a ≤ 1000000000) : ∃ r, Ev (fun k => laws_markText.f k a) r := by
  by_cases c : a ≤ 0
  · exact ⟨_, evIs fun k => by unfold laws_markText.f; rw [if_pos c]⟩
  · obtain ⟨r, hr⟩ := markText_l 10 a (⟨#[]⟩ : ByteArray) (by omega) h (by decide)
    exact ⟨r, Ev.congr (fun k => by unfold laws_markText.f; rw [if_neg c]) hr⟩
theorem markLineS_l : ∀ (n : Nat) (l : List S67) (i : Nat) (a : Int), l.length ≤ 1048576 → i + n = l.length → 0 ≤ a → a + 3 * n ≤ 100000000 → ∃ r, Ev (fun k => laws_markLineS.l0 k l a (i : Int)) r ∧ 0 ≤ r.1 := by
  intro n
  induction n with
  | zero =>
    intro l i a _ hi ha _
    exact ⟨(a, l), Ev.step (f := fun _ => some (a, l)) (fun k => by simp only [laws_markLineS.l0]; rw [if_neg (by omega)]) (Ev.now _), ha⟩
  | succ n ih =>
    intro l i a hl hi ha hb
    obtain ⟨t1, h1⟩ := markText_ev (a + 1) (by omega)
    obtain ⟨t2, h2⟩ := markText_ev (a + 1 + 1) (by omega)
    have e1 : wrap64 (a + 1) = a + 1 := w64 (by omega) (by omega)
    have e2 : wrap64 (a + 1 + 1) = a + 1 + 1 := w64 (by omega) (by omega)
    have e3 : wrap64 (a + 1 + 1 + 1) = a + 1 + 1 + 1 := w64 (by omega) (by omega)
    have e4 : wrap64 ((i : Int) + 1) = ((i + 1 : Nat) : Int) := by rw [w64 (by omega) (by omega)]; rfl
    obtain ⟨r, hr, h0⟩ := ih (((l.set i ⟨a, (rd_T67 l i).f1, (rd_T67 l i).f2⟩).set i ⟨(rd_T67 (l.set i ⟨a, (rd_T67 l i).f1, (rd_T67 l i).f2⟩) i).f0, t1, (rd_T67 (l.set i ⟨a, (rd_T67 l i).f1, (rd_T67 l i).f2⟩) i).f2⟩).set i ⟨(rd_T67 ((l.set i ⟨a, (rd_T67 l i).f1, (rd_T67 l i).f2⟩).set i ⟨(rd_T67 (l.set i ⟨a, (rd_T67 l i).f1, (rd_T67 l i).f2⟩) i).f0, t1, (rd_T67 (l.set i ⟨a, (rd_T67 l i).f1, (rd_T67 l i).f2⟩) i).f2⟩) i).f0, (rd_T67 ((l.set i ⟨a, (rd_T67 l i).f1, (rd_T67 l i).f2⟩).set i ⟨(rd_T67 (l.set i ⟨a, (rd_T67 l i).f1, (rd_T67 l i).f2⟩) i).f0, t1, (rd_T67 (l.set i ⟨a, (rd_T67 l i).f1, (rd_T67 l i).f2⟩) i).f2⟩) i).f1, t2⟩) (i + 1) (a + 1 + 1 + 1) (by simpa using hl) (by simp; omega) (by omega) (by omega)
    refine ⟨r, Ev.step (f := fun k => (laws_markText.f k (a + 1)).bind fun t1 => (laws_markText.f k (a + 1 + 1)).bind fun t2 => laws_markLineS.l0 k (((l.set i ⟨a, (rd_T67 l i).f1, (rd_T67 l i).f2⟩).set i ⟨(rd_T67 (l.set i ⟨a, (rd_T67 l i).f1, (rd_T67 l i).f2⟩) i).f0, t1, (rd_T67 (l.set i ⟨a, (rd_T67 l i).f1, (rd_T67 l i).f2⟩) i).f2⟩).set i ⟨(rd_T67 ((l.set i ⟨a, (rd_T67 l i).f1, (rd_T67 l i).f2⟩).set i ⟨(rd_T67 (l.set i ⟨a, (rd_T67 l i).f1, (rd_T67 l i).f2⟩) i).f0, t1, (rd_T67 (l.set i ⟨a, (rd_T67 l i).f1, (rd_T67 l i).f2⟩) i).f2⟩) i).f0, (rd_T67 ((l.set i ⟨a, (rd_T67 l i).f1, (rd_T67 l i).f2⟩).set i ⟨(rd_T67 (l.set i ⟨a, (rd_T67 l i).f1, (rd_T67 l i).f2⟩) i).f0, t1, (rd_T67 (l.set i ⟨a, (rd_T67 l i).f1, (rd_T67 l i).f2⟩) i).f2⟩) i).f1, t2⟩) (a + 1 + 1 + 1) ((i + 1 : Nat) : Int)) (fun k => ?_) (evThen h1 (fun k => rfl) (evThen h2 (fun k => rfl) hr)), h0⟩
    simp only [laws_markLineS.l0, Option.bind_some, e1, e2, e3, e4, Int.toNat_natCast]
    rw [if_pos (by omega), if_pos (by omega)]
theorem markDevice_ev (s : ByteArray) (l : List S67) (hl : l.length ≤ 1048576) : ∃ r, Ev (fun k => laws_markDevice.f k s l 1) r ∧ 0 ≤ r.1 := by
  obtain ⟨r, hr, h0⟩ := markLineS_l l.length l 0 1 hl (by omega) (by omega) (by omega)
  exact ⟨(r.1, r.2), evThen (g := fun k => laws_markLineS.f k l 1) hr (f := fun _ b => some (b.1, b.2)) (fun k => by unfold laws_markDevice.f; rfl) (Ev.now _), h0⟩
/-- a, a + 1, .. n of them. -/
def cnt (a : Int) : Nat → List Int
  | 0 => []
  | n + 1 => a :: cnt (a + 1) n
theorem cnt_len : ∀ (n : Nat) (a : Int), (cnt a n).length = n
  | 0, _ => rfl
  | n + 1, a => by simp [cnt, cnt_len n]
theorem cnt_succ : ∀ (n : Nat) (a : Int), cnt a (n + 1) = cnt a n ++ [a + n]
  | 0, a => by simp [cnt]
  | n + 1, a => by
    show a :: cnt (a + 1) (n + 1) = _
    rw [cnt_succ n (a + 1)]
    simp [cnt]
    omega
theorem markInts_l (l : List Int) (hl : l.length ≤ 1048576) : ∀ (n i : Nat), i + n = l.length → Ev (fun k => laws_markInt64S.l0 k (cnt 1 i ++ l.drop i) (1 + (i : Int)) (i : Int)) (1 + (l.length : Int), cnt 1 l.length) := by
  intro n
  induction n with
  | zero =>
    intro i hi
    obtain rfl : i = l.length := by omega
    refine Ev.step (f := fun _ => some _) (fun k => ?_) (Ev.now _)
    simp only [laws_markInt64S.l0]
    rw [if_neg (by simp [cnt_len])]
    simp
  | succ n ih =>
    intro i hi
    have h := ih (i + 1) (by omega)
    refine Ev.step (f := fun k => laws_markInt64S.l0 k (cnt 1 (i + 1) ++ l.drop (i + 1)) (1 + ((i + 1 : Nat) : Int)) ((i + 1 : Nat) : Int)) (fun k => ?_) h
    simp only [laws_markInt64S.l0]
    rw [if_pos (by simp [cnt_len]; omega), if_pos (by omega), w64 (by omega) (by omega), w64 (by omega) (by omega), Int.toNat_natCast, List.set_append_right _ _ (by rw [cnt_len]; omega), cnt_len, Nat.sub_self, List.drop_eq_getElem_cons (by omega), List.set_cons_zero, cnt_succ, List.append_assoc]
    simp only [List.singleton_append]
    congr 1
theorem markInts_ev (l : List Int) (hl : l.length ≤ 1048576) : Ev (fun k => laws_markInt64S.f k l 1) (1 + (l.length : Int), cnt 1 l.length) := by
  have h := markInts_l l hl l.length 0 (by omega)
  simpa [cnt, laws_markInt64S.f] using h
theorem cnt_get : ∀ (n : Nat) (a : Int) (i : Nat), i < n → (cnt a n)[i]? = some (a + i)
  | 0, _, _, h => absurd h (by omega)
  | n + 1, a, 0, _ => by simp [cnt]
  | n + 1, a, i + 1, h => by simp only [cnt, List.getElem?_cons_succ]; rw [cnt_get n (a + 1) i (by omega)]; congr 1; omega
theorem heldInts_l (m : Nat) (hm : m ≤ 1048576) : ∀ (n i : Nat), i + n = m → Ev (fun k => laws_heldInt64S.l0 k (cnt 1 m) (1 + (i : Int)) (i : Int)) (1 + (m : Int)) := by
  intro n
  induction n with
  | zero =>
    intro i hi
    obtain rfl : i = m := by omega
    refine Ev.step (f := fun _ => some _) (fun k => ?_) (Ev.now _)
    simp only [laws_heldInt64S.l0]
    rw [if_neg (by simp [cnt_len])]
  | succ n ih =>
    intro i hi
    have h := ih (i + 1) (by omega)
    refine Ev.step (f := fun k => laws_heldInt64S.l0 k (cnt 1 m) (1 + ((i + 1 : Nat) : Int)) ((i + 1 : Nat) : Int)) (fun k => ?_) h
    simp only [laws_heldInt64S.l0]
    rw [if_pos (by simp [cnt_len]; omega), if_pos (by omega), if_pos (by simp [rd, List.getD, cnt_get m 1 i (by omega)]), w64 (by omega) (by omega), w64 (by omega) (by omega)]
    congr 1
theorem heldInts_ev (m : Nat) (hm : m ≤ 1048576) : Ev (fun k => laws_heldInt64S.f k (cnt 1 m) 1) (1 + (m : Int)) := by
  have h := heldInts_l m hm m 0 (by omega)
  simpa [laws_heldInt64S.f] using h
theorem riskP_len (s : ByteArray) (l : List S67) : (riskP s l).length ≤ l.length := by
  unfold riskP
  split
  · unfold risk; rw [List.length_map]; exact List.length_filter_le _ _
  · simp
theorem FnExactAtRisk (s : ByteArray) (l : List S92) (hs : s.size ≤ 9223372036854775807) (hl : l.length ≤ 9223372036854775807) : ∃ k, laws_FnExactAtRisk.f k s l = some true := by
  refine Ev.rounds (r := true) ?_
  unfold laws_FnExactAtRisk.f
  obtain ⟨r, hr, hb⟩ := szDevice_ev s l hs hl
  refine evThen hr (fun k => rfl) ?_
  by_cases c : r < 0
  · simp only [if_pos c]; exact Ev.now _
  · obtain ⟨hs', hl'⟩ := hb (by omega)
    have hm : (l.map cv).length ≤ 1048576 := by rw [List.length_map]; exact hl'
    have t := toDevice_ev s l hl'
    have hz : (riskP s (l.map cv)).length ≤ 1048576 := Nat.le_trans (riskP_len s _) hm
    have q := eqInts_refl (riskP s (l.map cv)) (by omega)
    obtain ⟨m, em, m0⟩ := markDevice_ev s (l.map cv) hm
    have j : Ev (fun k => laws_FnExactAtRisk.j0 k (riskP s (l.map cv)) (riskP s (l.map cv)) (!true) s l) true := by
      have hc : ¬ (1 + ((riskP s (l.map cv)).length : Int) < 0) := by omega
      refine Ev.step (f := fun k => _) (fun k => by simp (implicitDefEqProofs := false) only [laws_FnExactAtRisk.j0, Bool.not_true, Bool.false_eq_true, if_false]; rfl) ?_
      refine evThen (markInts_ev (riskP s (l.map cv)) hz) (fun k => rfl) (evThen (heldInts_ev _ hz) (fun k => rfl) ?_)
      simp only [if_neg hc, if_true]
      refine evThen t (fun k => rfl) (evThen (iAR s (l.map cv) hs' hm) (fun k => rfl) (evThen q (fun k => rfl) ?_))
      simp only [if_true]
      refine evThen (heldInts_ev _ hz) (fun k => rfl) (evIs fun k => ?_)
      simp only [if_neg hc, if_true]
    simp only [if_neg c]
    refine evThen t (fun k => rfl) (evThen (sAR s (l.map cv) hs' hm) (fun k => rfl) (evThen t (fun k => rfl) (evThen (iAR s (l.map cv) hs' hm) (fun k => rfl) (evThen q (fun k => rfl) ?_))))
    simp only [if_true]
    refine evThen t (fun k => rfl) (evThen (eqDevice_refl s (l.map cv) (by omega)) (fun k => rfl) ?_)
    simp only [if_true]
    refine evThen em (fun k => rfl) ?_
    simp only [if_neg (show ¬ m.1 < 0 by omega)]
    exact evThen q (fun k => rfl) j
end Go.Proofs.Ytbbbajnnoficbaa.Pure
