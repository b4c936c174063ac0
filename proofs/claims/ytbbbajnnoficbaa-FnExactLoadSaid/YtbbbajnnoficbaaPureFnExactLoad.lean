/- What the printed functions compute, the program's Load and the reference's give the same answer; no condition. -/
import Derived.Test.YtbbbajnnoficbaaPFnExactLoadx0
import Derived.Test.YtbbbajnnoficbaaPFnExactLoadx1
import Derived.Test.YtbbbajnnoficbaaPFnExactLoadx2
import Derived.Test.YtbbbajnnoficbaaPFnExactLoadx3
import Derived.Test.YtbbbajnnoficbaaPFnExactLoadx4
import Derived.Test.YtbbbajnnoficbaaPFnExactLoadx5
import Derived.Test.YtbbbajnnoficbaaPFnExactLoadx6
import Derived.Test.YtbbbajnnoficbaaPFnExactLoadx7
namespace Go.Proofs.Ytbbbajnnoficbaa.Pure
open Go.RowKit Go.Proofs.Ytbbbajnnoficbaa.PFnExactLoad Go.Proofs.YtbbbajnnoficbaaW.PrintWords Go.Proofs.YtbbbajnnoficbaaW.PrintLast
set_option linter.unusedVariables false
set_option linter.unusedSimpArgs false
theorem w64 {n : Int} (h0 : -9223372036854775808 ≤ n) (h1 : n ≤ 9223372036854775807) : wrap64 n = n := by unfold wrap64; omega
theorem u64 (n : Int) : IntKind.u64.wrap n = n % 18446744073709551616 := by simp [IntKind.wrap, IntKind.bits, IntKind.signed]
theorem wf64 {n : Int} (h : (Lit.int .i64 n).wf = true) : -9223372036854775808 ≤ n ∧ n ≤ 9223372036854775807 := by
  simp [Lit.wf, IntKind.min, IntKind.max, IntKind.bits, IntKind.signed] at h
  omega
theorem evThen {α β : Type} {g : Nat → Option α} {h : Nat → Option β} {f : Nat → α → Option β} {a : α} {r : β} (e : Ev g a) (he : ∀ k, h k = (g k).bind (f k)) (k : Ev (fun n => f n a) r) : Ev h r := Ev.congr he (Ev.bind e k)
theorem evIs {α : Type} {g : Nat → Option α} {r : α} (h : ∀ k, g k = some r) : Ev g r := ⟨0, fun k _ => h k⟩
theorem szLine_some (a : Int) (b c : ByteArray) (left : Int) : ∃ r, laws_szLine.f a b c left = some r := by
  unfold laws_szLine.f
  split
  · exact ⟨_, rfl⟩
  · split <;> exact ⟨_, rfl⟩
theorem szLineS_l (l : List S92) (hl : l.length ≤ 9223372036854775807) : ∀ (n : Nat) (left : Int) (i : Nat), i + n = l.length → ∃ r, Ev (fun k => laws_szLineS.l0 k l left (i : Int)) r := by
  intro n
  induction n with
  | zero => intro left i hi; exact ⟨left, Ev.step (f := fun _ => some left) (fun k => by simp only [laws_szLineS.l0]; rw [if_neg (by omega)]) (Ev.now _)⟩
  | succ n ih =>
    intro left i hi
    obtain ⟨r, hr⟩ := szLine_some (rd_T92 l i).f0 (rd_T92 l i).f1 (rd_T92 l i).f2 left
    by_cases c : r < 0
    · exact ⟨-1, Ev.step (f := fun _ => some (-1)) (fun k => by simp only [laws_szLineS.l0]; rw [if_pos (by omega), if_pos (by omega), hr, Option.bind_some, if_pos c]) (Ev.now _)⟩
    · obtain ⟨z, hz⟩ := ih r (i + 1) (by omega)
      refine ⟨z, Ev.step (f := fun k => laws_szLineS.l0 k l r ((i + 1 : Nat) : Int)) (fun k => ?_) hz⟩
      simp only [laws_szLineS.l0]
      rw [if_pos (by omega), if_pos (by omega), hr, Option.bind_some, if_neg c, w64 (by omega) (by omega)]
      rfl
theorem szLineS_ev (l : List S92) (hl : l.length ≤ 9223372036854775807) (left : Int) (h0 : left ≤ 1048576) (h1 : 0 ≤ left) : ∃ r, Ev (fun k => laws_szLineS.f k l left) r ∧ (0 ≤ r → l.length ≤ 1048576) := by
  by_cases c : wrap64 (left - (l.length : Int)) < 0
  · exact ⟨-1, evIs fun k => by unfold laws_szLineS.f; rw [if_pos c], by omega⟩
  · obtain ⟨r, hr⟩ := szLineS_l l hl l.length (wrap64 (left - (l.length : Int))) 0 (by omega)
    refine ⟨r, Ev.congr (fun k => by unfold laws_szLineS.f; rw [if_neg c]; rfl) hr, fun _ => ?_⟩
    rw [w64 (by omega) (by omega)] at c
    omega
theorem szDevice_ev (s : ByteArray) (l : List S92) (hs : s.size ≤ 9223372036854775807) (hl : l.length ≤ 9223372036854775807) : ∃ r, Ev (fun k => laws_szDevice.f k s l 1048576) r ∧ (0 ≤ r → s.size ≤ 1048576 ∧ l.length ≤ 1048576) := by
  by_cases c : wrap64 (1048576 - (s.size : Int)) < 0
  · exact ⟨-1, evIs fun k => by unfold laws_szDevice.f; rw [if_pos c], by omega⟩
  · have c' := c
    rw [w64 (by omega) (by omega)] at c'
    have e : wrap64 (1048576 - (s.size : Int)) = 1048576 - (s.size : Int) := w64 (by omega) (by omega)
    obtain ⟨r, hr, hb⟩ := szLineS_ev l hl (wrap64 (1048576 - (s.size : Int))) (by omega) (by omega)
    by_cases d : r < 0
    · exact ⟨-1, evThen hr (fun k => by unfold laws_szDevice.f; rw [if_neg c]) (evIs fun k => by rw [if_pos d]), by omega⟩
    · exact ⟨r, evThen hr (fun k => by unfold laws_szDevice.f; rw [if_neg c]) (evIs fun k => by rw [if_neg d]), fun _ => ⟨by omega, hb (by omega)⟩⟩
def cv (x : S92) : S67 := ⟨x.f0, x.f1, x.f2⟩
theorem toLineS_l (l : List S92) (hl : l.length ≤ 1048576) : ∀ (n i : Nat), i + n = l.length → Ev (fun k => laws_toLineS.l0 k l ((l.take i).map cv ++ List.replicate n z67) (i : Int)) (l.map cv) := by
  intro n
  induction n with
  | zero =>
    intro i hi
    refine Ev.step (f := fun _ => some (l.map cv)) (fun k => ?_) (Ev.now _)
    simp only [laws_toLineS.l0]
    rw [if_neg (by omega), List.take_of_length_le (by omega)]
    simp
  | succ n ih =>
    intro i hi
    have h := ih (i + 1) (by omega)
    refine Ev.step (f := fun k => laws_toLineS.l0 k l ((l.take (i + 1)).map cv ++ List.replicate n z67) ((i + 1 : Nat) : Int)) (fun k => ?_) h
    simp only [laws_toLineS.l0, laws_toLine.f, Option.bind_some]
    have hlen : ((l.take i).map cv ++ List.replicate (n + 1) z67).length = l.length := by simp; omega
    rw [if_pos (by omega), if_pos (by omega), if_pos (by rw [hlen]; omega), w64 (by omega) (by omega)]
    congr 1
    have hm : ((l.take i).map cv).length = i := by simp; omega
    rw [Int.toNat_natCast, List.set_append_right _ _ (by omega), hm, Nat.sub_self, List.replicate_succ, List.set_cons_zero, List.take_add_one, List.map_append, List.append_assoc]
    congr 1
    have hi' : i < l.length := by omega
    simp [rd_T92, List.getD, hi', cv]
theorem toDevice_ev (s : ByteArray) (l : List S92) (hl : l.length ≤ 1048576) : Ev (fun k => laws_toDevice.f k s l) (s, l.map cv) := by
  have h := toLineS_l l hl l.length 0 (by omega)
  unfold laws_toDevice.f
  refine evThen (g := fun k => laws_toLineS.f k l) (a := l.map cv) (Ev.congr (fun k => ?_) h) (fun k => rfl) (Ev.now _)
  unfold laws_toLineS.f
  rw [if_pos (by omega), if_pos (by omega)]
  simp
theorem eqLine_refl (a : Int) (b c : ByteArray) : laws_eqLine.f a b c a b c = some true := by unfold laws_eqLine.f; simp
theorem eqLineS_l (l : List S67) (hl : l.length ≤ 9223372036854775807) : ∀ (n i : Nat), i + n = l.length → Ev (fun k => laws_eqLineS.l0 k l l (i : Int)) true := by
  intro n
  induction n with
  | zero =>
    intro i hi
    refine Ev.step (f := fun _ => some true) (fun k => ?_) (Ev.now _)
    simp only [laws_eqLineS.l0]
    rw [if_neg (by omega)]
  | succ n ih =>
    intro i hi
    have h := ih (i + 1) (by omega)
    refine Ev.step (f := fun k => laws_eqLineS.l0 k l l ((i + 1 : Nat) : Int)) (fun k => ?_) h
    simp only [laws_eqLineS.l0]
    rw [if_pos (by omega), if_pos (by omega), if_pos (by omega), eqLine_refl, Option.bind_some, if_pos rfl, w64 (by omega) (by omega)]
    rfl
theorem eqDevice_refl (s : ByteArray) (l : List S67) (hl : l.length ≤ 9223372036854775807) : Ev (fun k => laws_eqDevice.f k s l s l) true := by
  unfold laws_eqDevice.f
  refine evThen (g := fun k => laws_eqLineS.f k l l) (Ev.congr (fun k => by unfold laws_eqLineS.f; rw [if_pos rfl]; rfl) (eqLineS_l l hl l.length 0 (by omega))) (f := fun _ t => if t = true then some true else some false) (fun k => by rw [if_pos rfl]) (evIs fun k => by rw [if_pos rfl])
theorem sIn (a b c : Int) : spec_l1In.f a b c = some (decide (b ≤ a ∧ a ≤ c)) := by
  unfold spec_l1In.f
  by_cases h : a ≥ b
  · rw [if_pos h]; congr 1; rw [decide_eq_decide]; omega
  · rw [if_neg h]; congr 1; symm; rw [decide_eq_false_iff_not]; omega
/-- A line of a right device, by its number. -/
def lineOk (s : ByteArray) (l : List S67) (i : Nat) : Prop :=
  (0 ≤ (rd_T67 l i).f0 ∧ (rd_T67 l i).f0 ≤ (s.size : Int) / 64 - 1) ∧ (0 < i → (rd_T67 l ((i : Int) - 1)).f0 < (rd_T67 l i).f0) ∧ (rd_T67 l i).f1.size = 64 ∧ ((rd_T67 l i).f2.size = 64 ∨ (rd_T67 l i).f2.toList = [])
def DevOk (s : ByteArray) (l : List S67) : Prop := ((s.size : Int) % 64 = 0 ∧ 1 ≤ (s.size : Int) / 64 ∧ (s.size : Int) / 64 ≤ 128) ∧ ∀ j, j < l.length → lineOk s l j
/-- The lines from i on. -/
def okFrom (s : ByteArray) (l : List S67) (i : Nat) : Prop := ∀ j, i ≤ j → j < l.length → lineOk s l j
open Classical in
noncomputable def okFromB (s : ByteArray) (l : List S67) (i : Nat) : Bool := decide (okFrom s l i)
open Classical in
noncomputable def devOkB (s : ByteArray) (l : List S67) : Bool := decide (DevOk s l)
open Classical in
theorem okFromB_end (s : ByteArray) (l : List S67) (i : Nat) (h : l.length ≤ i) : okFromB s l i = true := by
  unfold okFromB; exact decide_eq_true (fun j h1 h2 => by omega)
open Classical in
theorem okFromB_no (s : ByteArray) (l : List S67) (i : Nat) (h : i < l.length) (hn : ¬ lineOk s l i) : okFromB s l i = false := by
  unfold okFromB; exact decide_eq_false (fun z => hn (z i (Nat.le_refl i) h))
open Classical in
theorem okFromB_yes (s : ByteArray) (l : List S67) (i : Nat) (hy : lineOk s l i) : okFromB s l i = okFromB s l (i + 1) := by
  unfold okFromB
  congr 1
  refine propext ⟨fun z j h1 h2 => z j (by omega) h2, fun z j h1 h2 => ?_⟩
  by_cases e : j = i
  · subst e; exact hy
  · exact z j (by omega) h2
open Classical in
theorem devOkB_no (s : ByteArray) (l : List S67) (h : ¬ ((s.size : Int) % 64 = 0 ∧ 1 ≤ (s.size : Int) / 64 ∧ (s.size : Int) / 64 ≤ 128)) : devOkB s l = false := by
  unfold devOkB; exact decide_eq_false (fun z => h z.1)
open Classical in
theorem devOkB_go (s : ByteArray) (l : List S67) (h : (s.size : Int) % 64 = 0) (h' : 1 ≤ (s.size : Int) / 64 ∧ (s.size : Int) / 64 ≤ 128) : devOkB s l = okFromB s l 0 := by
  unfold devOkB okFromB
  congr 1
  exact propext ⟨fun z j _ h2 => z.2 j h2, fun z => ⟨⟨h, h'⟩, fun j h2 => z j (Nat.zero_le j) h2⟩⟩
open Classical in
theorem devOkB_iff (s : ByteArray) (l : List S67) : devOkB s l = true ↔ DevOk s l := by
  unfold devOkB; exact decide_eq_true_iff
theorem sDOl (s : ByteArray) (l : List S67) (hs : s.size ≤ 1048576) (hl : l.length ≤ 1048576) : ∀ (n i : Nat), i + n = l.length → Ev (fun k => spec_DeviceOk.l0 k (i : Int) s l) (okFromB s l i) := by
  intro n
  induction n with
  | zero =>
    intro i hi
    rw [okFromB_end s l i (by omega)]
    exact Ev.step (f := fun _ => some true) (fun k => by simp only [spec_DeviceOk.l0]; rw [if_neg (by omega)]) (Ev.now _)
  | succ n ih =>
    intro i hi
    have h := ih (i + 1) (by omega)
    have e1 : wrap64 ((s.size : Int) / 64) = (s.size : Int) / 64 := w64 (by omega) (by omega)
    have e2 : wrap64 ((s.size : Int) / 64 - 1) = (s.size : Int) / 64 - 1 := w64 (by omega) (by omega)
    have e3 : wrap64 ((i : Int) + 1) = ((i + 1 : Nat) : Int) := by rw [w64 (by omega) (by omega)]; rfl
    have e4 : wrap64 ((i : Int) - 1) = (i : Int) - 1 := w64 (by omega) (by omega)
    have no : ¬ lineOk s l i → (∀ k, spec_DeviceOk.l0 (k + 1) (i : Int) s l = some false) → Ev (fun k => spec_DeviceOk.l0 k (i : Int) s l) (okFromB s l i) := by
      intro hn hk
      rw [okFromB_no s l i (by omega) hn]
      exact Ev.step (f := fun _ => some false) hk (Ev.now _)
    have yes : lineOk s l i → (∀ k, spec_DeviceOk.l0 (k + 1) (i : Int) s l = spec_DeviceOk.l0 k ((i + 1 : Nat) : Int) s l) → Ev (fun k => spec_DeviceOk.l0 k (i : Int) s l) (okFromB s l i) := by
      intro hy hk
      rw [okFromB_yes s l i hy]
      exact Ev.step (f := fun k => spec_DeviceOk.l0 k ((i + 1 : Nat) : Int) s l) hk h
    have base : ∀ k, spec_DeviceOk.l0 (k + 1) (i : Int) s l = _ := fun k => by
      simp (implicitDefEqProofs := false) only [spec_DeviceOk.l0, spec_l2Count.f, sIn, Option.bind_some, e1, e2, e3, e4, if_pos (show (i : Int) < (l.length : Int) by omega), if_pos (show (0 : Int) ≤ (i : Int) by omega)]
      rfl
    by_cases c1 : 0 ≤ (rd_T67 l i).f0 ∧ (rd_T67 l i).f0 ≤ (s.size : Int) / 64 - 1
    · have c1' : decide (0 ≤ (rd_T67 l i).f0 ∧ (rd_T67 l i).f0 ≤ (s.size : Int) / 64 - 1) = true := decide_eq_true c1
      have tail : ∀ (hb : 0 < i → (rd_T67 l ((i : Int) - 1)).f0 < (rd_T67 l i).f0) (hk : ∀ k, spec_DeviceOk.l0 (k + 1) (i : Int) s l = (if (((rd_T67 l i).f1).size : Int) = 64 then (if (((rd_T67 l i).f2).size : Int) = 64 then (spec_DeviceOk.l0 k ((i + 1 : Nat) : Int) s l) else (if ((rd_T67 l i).f2).toList = ([] : List UInt8) then (spec_DeviceOk.l0 k ((i + 1 : Nat) : Int) s l) else (some false))) else (some false))), Ev (fun k => spec_DeviceOk.l0 k (i : Int) s l) (okFromB s l i) := by
        intro hb hk
        by_cases c3 : (((rd_T67 l i).f1).size : Int) = 64
        · by_cases c4 : (((rd_T67 l i).f2).size : Int) = 64
          · exact yes ⟨c1, hb, by omega, .inl (by omega)⟩ (fun k => by rw [hk, if_pos c3, if_pos c4])
          · by_cases c5 : ((rd_T67 l i).f2).toList = ([] : List UInt8)
            · exact yes ⟨c1, hb, by omega, .inr c5⟩ (fun k => by rw [hk, if_pos c3, if_neg c4, if_pos c5])
            · exact no (fun z => by rcases z.2.2.2 with z | z; exact c4 (by omega); exact c5 z) (fun k => by rw [hk, if_pos c3, if_neg c4, if_neg c5])
        · exact no (fun z => c3 (by have := z.2.2.1; omega)) (fun k => by rw [hk, if_neg c3])
      by_cases c2 : (i : Int) > 0
      · by_cases c6 : (rd_T67 l i).f0 ≤ (rd_T67 l ((i : Int) - 1)).f0
        · exact no (fun z => by have := z.2.1 (by omega); omega) (fun k => by rw [base, c1', if_pos rfl, if_pos c2, if_pos (by omega), if_pos (by omega), if_pos c6])
        · exact tail (fun _ => by omega) (fun k => by rw [base, c1', if_pos rfl, if_pos c2, if_pos (by omega), if_pos (by omega), if_neg c6])
      · exact tail (fun z => by omega) (fun k => by rw [base, c1', if_pos rfl, if_neg c2])
    · have c1' : decide (0 ≤ (rd_T67 l i).f0 ∧ (rd_T67 l i).f0 ≤ (s.size : Int) / 64 - 1) = false := decide_eq_false c1
      exact no (fun z => c1 z.1) (fun k => by rw [base, c1', if_neg (by decide)])
theorem sDO (s : ByteArray) (l : List S67) (hs : s.size ≤ 1048576) (hl : l.length ≤ 1048576) : Ev (fun k => spec_DeviceOk.f k s l) (devOkB s l) := by
  have h := sDOl s l hs hl l.length 0 (by omega)
  have e1 : wrap64 ((s.size : Int) / 64) = (s.size : Int) / 64 := w64 (by omega) (by omega)
  have jt : Ev (fun k => spec_DeviceOk.j0 k true s l) false := Ev.step (f := fun _ => some false) (fun k => by simp only [spec_DeviceOk.j0, if_true]) (Ev.now _)
  have jf : Ev (fun k => spec_DeviceOk.j0 k false s l) (okFromB s l 0) := Ev.step (f := fun k => spec_DeviceOk.l0 k ((0 : Nat) : Int) s l) (fun k => by simp only [spec_DeviceOk.j0]; rw [if_neg (by decide)]; rfl) h
  unfold spec_DeviceOk.f
  by_cases c : (s.size : Int) % 64 = 0
  · simp only [if_pos c, spec_l2Count.f, sIn, Option.bind_some, e1]
    by_cases d : 1 ≤ (s.size : Int) / 64 ∧ (s.size : Int) / 64 ≤ 128
    · rw [devOkB_go s l c d]; simpa [d] using jf
    · rw [devOkB_no s l (fun z => d z.2)]; simpa [d] using jt
  · simp only [if_neg c]
    rw [devOkB_no s l (fun z => c z.1)]; exact jt
def safeL (s : ByteArray) (a : Int) : ByteArray := s.extract (64 * a).toNat (64 * a + 64).toNat
def risk (s : ByteArray) (xs : List S67) : List Int := (xs.filter (fun x => decide (¬ x.f1.toList = (safeL s x.f0).toList))).map (fun x => x.f0)
theorem rd_nat (l : List S67) (i : Nat) (h : i < l.length) : rd_T67 l (i : Int) = l[i] := by simp [rd_T67, List.getD, h]
theorem risk_step (s : ByteArray) (l : List S67) (i : Nat) (h : i < l.length) : risk s (l.drop i) = if (rd_T67 l i).f1.toList = (safeL s (rd_T67 l i).f0).toList then risk s (l.drop (i + 1)) else (rd_T67 l i).f0 :: risk s (l.drop (i + 1)) := by
  rw [rd_nat l i h, List.drop_eq_getElem_cons h]
  generalize List.drop (i + 1) l = t
  generalize l[i] = x
  unfold risk
  by_cases c : x.f1.toList = (safeL s x.f0).toList <;> simp [c]
theorem line_at {s : ByteArray} {l : List S67} (hd : DevOk s l) {i : Nat} (h : i < l.length) : 0 ≤ (rd_T67 l i).f0 ∧ 64 * (rd_T67 l i).f0 + 64 ≤ (s.size : Int) := by
  have z := (hd.2 i h).1
  have := hd.1
  omega
noncomputable def riskP (s : ByteArray) (l : List S67) : List Int := open Classical in if DevOk s l then risk s l else []
/-- The i-th 64 bytes. -/
def blk (b : List UInt8) (i : Nat) : List UInt8 := (b.drop (64 * i)).take 64
theorem blk_length (b : List UInt8) (i : Nat) (h : 64 * i + 64 ≤ b.length) : (blk b i).length = 64 := by simp [blk]; omega
theorem blk_lay (b d : List UInt8) (a i : Nat) (hd : d.length = 64) (ha : 64 * a + 64 ≤ b.length) (hi : 64 * i + 64 ≤ b.length) :
    blk (b.take (64 * a) ++ d ++ b.drop (64 * a + d.length)) i = if i = a then d else blk b i := by
  rw [hd]
  apply List.ext_getElem?
  intro j
  unfold blk
  rw [List.getElem?_take, List.getElem?_drop]
  by_cases hj : j < 64
  · rw [if_pos hj, List.append_assoc, List.getElem?_append, List.getElem?_append, List.length_take, hd, show min (64 * a) b.length = 64 * a by omega]
    by_cases e : i = a
    · subst e
      rw [if_pos rfl, if_neg (by omega), if_pos (by omega)]
      congr 1; omega
    · rw [if_neg e, show ((b.drop (64 * i)).take 64)[j]? = b[64 * i + j]? from by rw [List.getElem?_take, if_pos hj, List.getElem?_drop]]
      by_cases e2 : 64 * i + j < 64 * a
      · rw [if_pos e2, List.getElem?_take, if_pos e2]
      · rw [if_neg e2, if_neg (by omega), List.getElem?_drop]
        congr 1; omega
  · rw [if_neg hj]
    by_cases e : i = a
    · rw [if_pos e, List.getElem?_eq_none (by omega)]
    · rw [if_neg e, List.getElem?_take, if_neg hj]
theorem join_blk (b : List UInt8) : ∀ n : Nat, (List.range n).flatMap (blk b) = b.take (64 * n)
  | 0 => by simp
  | n + 1 => by
    rw [List.range_succ, List.flatMap_append, join_blk b n, show 64 * (n + 1) = 64 * n + 64 by omega, List.take_add]
    simp [blk]
/-- What is seen of line i. -/
def seenB (s : List UInt8) (l : List S67) (i : Nat) : List UInt8 := l.foldl (fun acc x => if x.f0 = (i : Int) then x.f1.data.toList else acc) (blk s i)
def srt (l : List S67) : Prop := l.Pairwise (fun x y => x.f0 < y.f0)
theorem foldl_no (l : List S67) (i : Int) (h : ∀ x ∈ l, x.f0 ≠ i) : ∀ a : List UInt8, l.foldl (fun acc x => if x.f0 = i then x.f1.data.toList else acc) a = a := by
  induction l with
  | nil => intro a; rfl
  | cons x l ih =>
    intro a
    rw [List.foldl_cons, if_neg (h x (by simp))]
    exact ih (fun y hy => h y (by simp [hy])) a
theorem foldl_find (i : Int) : ∀ (l : List S67), srt l → ∀ a : List UInt8, l.foldl (fun acc x => if x.f0 = i then x.f1.data.toList else acc) a =
    if (l[l.countP (fun x => decide (x.f0 < i))]?).any (fun x => decide (x.f0 = i)) = true then (l.getD (l.countP (fun x => decide (x.f0 < i))) z67).f1.data.toList else a
  | [], _, a => by simp
  | x :: l, h, a => by
    have hx := (List.pairwise_cons.1 h).1
    have hl := (List.pairwise_cons.1 h).2
    rw [List.foldl_cons]
    by_cases c : x.f0 < i
    · rw [if_neg (by omega), foldl_find i l hl a, List.countP_cons_of_pos (by simpa using c)]
      simp
    · have z : (x :: l).countP (fun x => decide (x.f0 < i)) = 0 := by
        rw [List.countP_eq_zero]
        intro y hy
        rcases List.mem_cons.1 hy with rfl | hy
        · simpa using c
        · have := hx y hy; simp; omega
      rw [z, foldl_no l i (fun y hy => by have := hx y hy; omega)]
      by_cases e : x.f0 = i <;> simp [e]
theorem srt_of {s : ByteArray} {l : List S67} (hd : DevOk s l) : srt l := by
  have h1 : ∀ i, i + 1 < l.length → (rd_T67 l (i : Int)).f0 < (rd_T67 l ((i + 1 : Nat) : Int)).f0 := by
    intro i hi
    have := (hd.2 (i + 1) hi).2.1 (by omega)
    rwa [show (((i + 1 : Nat) : Int) - 1) = (i : Int) by omega] at this
  have h2 : ∀ (d i : Nat), i + (d + 1) < l.length → (rd_T67 l (i : Int)).f0 < (rd_T67 l ((i + (d + 1) : Nat) : Int)).f0 := by
    intro d
    induction d with
    | zero => intro i hi; exact h1 i hi
    | succ d ih =>
      intro i hi
      have a := ih i (by omega)
      have b := h1 (i + (d + 1)) (by omega)
      rw [show i + (d + 1 + 1) = i + (d + 1) + 1 by omega]
      omega
  unfold srt
  rw [List.pairwise_iff_getElem]
  intro i j hi hj hij
  have := h2 (j - i - 1) i (by omega)
  rw [show i + (j - i - 1 + 1) = j by omega, rd_nat l i hi, rd_nat l j hj] at this
  exact this
/-- All lines laid over the safe contents. -/
def layAll (b : List UInt8) (l : List S67) : List UInt8 := l.foldl (fun b x => b.take (64 * x.f0).toNat ++ x.f1.data.toList ++ b.drop ((64 * x.f0).toNat + x.f1.data.toList.length)) b
theorem layAll_blk : ∀ (l : List S67) (b : List UInt8), (∀ x ∈ l, 0 ≤ x.f0 ∧ 64 * x.f0 + 64 ≤ (b.length : Int) ∧ x.f1.size = 64) → (layAll b l).length = b.length ∧ ∀ i, 64 * i + 64 ≤ b.length → blk (layAll b l) i = seenB b l i
  | [], b, _ => ⟨rfl, fun i _ => rfl⟩
  | x :: l, b, h => by
    obtain ⟨h1, h2, h3⟩ := h x (by simp)
    obtain ⟨n, hn⟩ := Int.eq_ofNat_of_zero_le h1
    have h3' : x.f1.data.toList.length = 64 := by rw [← h3]; simp
    have e : (64 * x.f0).toNat = 64 * n := by omega
    have hlen : (b.take (64 * x.f0).toNat ++ x.f1.data.toList ++ b.drop ((64 * x.f0).toNat + x.f1.data.toList.length)).length = b.length := by
      simp only [List.length_append, List.length_take, List.length_drop, h3']; omega
    obtain ⟨a1, a2⟩ := layAll_blk l (b.take (64 * x.f0).toNat ++ x.f1.data.toList ++ b.drop ((64 * x.f0).toNat + x.f1.data.toList.length)) (fun y hy => by rw [hlen]; exact h y (by simp [hy]))
    refine ⟨a1.trans hlen, fun i hi => ?_⟩
    have := a2 i (by rw [hlen]; exact hi)
    rw [show layAll b (x :: l) = layAll (b.take (64 * x.f0).toNat ++ x.f1.data.toList ++ b.drop ((64 * x.f0).toNat + x.f1.data.toList.length)) l from rfl, this]
    unfold seenB
    rw [List.foldl_cons, e, blk_lay b x.f1.data.toList n i h3' (by omega) hi, hn]
    by_cases c : i = n
    · rw [if_pos c, if_pos (by rw [c])]
    · rw [if_neg c, if_neg (by omega)]
def seenL (s : List UInt8) (l : List S67) : List UInt8 := (List.range (s.length / 64)).flatMap (seenB s l)
theorem layAll_seen (l : List S67) (b : List UInt8) (hb : b.length % 64 = 0) (h : ∀ x ∈ l, 0 ≤ x.f0 ∧ 64 * x.f0 + 64 ≤ (b.length : Int) ∧ x.f1.size = 64) : layAll b l = seenL b l := by
  obtain ⟨h1, h2⟩ := layAll_blk l b h
  have e := join_blk (layAll b l) (b.length / 64)
  rw [List.take_of_length_le (by rw [h1]; omega)] at e
  rw [← e]
  unfold seenL
  rw [List.flatMap_def, List.flatMap_def]
  congr 1
  apply List.map_congr_left
  intro i hi
  exact h2 i (by have := List.mem_range.1 hi; omega)
def layd (b : List UInt8) (n : Nat) (t : List UInt8) : List UInt8 := b.take (64 * n) ++ t ++ b.drop (64 * n + t.length)
theorem layd_len (b : List UInt8) (n : Nat) (t : List UInt8) (h : 64 * n + t.length ≤ b.length) : (layd b n t).length = b.length := by simp [layd]; omega
theorem layd_nil (b : List UInt8) (n : Nat) : layd b n [] = b := by simp [layd]
/-- What a right device says of each of its lines. -/
def okL (m : Nat) (x : S67) : Prop := 0 ≤ x.f0 ∧ 64 * x.f0 + 64 ≤ (m : Int) ∧ x.f1.size = 64 ∧ (x.f2.size = 64 ∨ x.f2.size = 0)
theorem okL_of {s : ByteArray} {l : List S67} (hd : DevOk s l) : ∀ x ∈ l, okL s.size x := by
  intro x hx
  obtain ⟨i, hi, rfl⟩ := List.getElem_of_mem hx
  have h := hd.2 i hi
  have h1 := hd.1
  unfold lineOk at h
  rw [rd_nat l i hi] at h
  obtain ⟨⟨a, b⟩, _, c, d⟩ := h
  refine ⟨a, by omega, c, ?_⟩
  rcases d with d | d
  · exact .inl d
  · refine .inr ?_
    rw [ByteArray.toList_eq] at d
    have : l[i].f2.data.toList.length = 0 := by rw [d]; rfl
    simpa using this
theorem dlen (d : ByteArray) : d.data.toList.length = d.size := by simp
theorem l2S_l : ∀ (l : List S67) (b : List UInt8), (∀ x ∈ l, okL b.length x) → spec_l2Seen.l l b = some (layAll b l)
  | [], b, _ => rfl
  | x :: xs, b, h => by
    obtain ⟨h1, h2, h3, h4⟩ := h x (by simp)
    obtain ⟨n, hn⟩ := Int.eq_ofNat_of_zero_le h1
    have k1 : (b.take (64 * x.f0).toNat ++ x.f1.data.toList ++ b.drop ((64 * x.f0).toNat + x.f1.data.toList.length)).length = b.length := by
      have := layd_len b n x.f1.data.toList (by rw [dlen]; omega)
      rw [show (64 * x.f0).toNat = 64 * n by omega]; exact this
    unfold spec_l2Seen.l
    rw [if_pos ⟨h1, h2, by omega⟩, l2S_l xs _ (fun y hy => by rw [k1]; exact h y (by simp [hy]))]
    rfl
theorem l2S (s : ByteArray) (l : List S67) (hd : DevOk s l) (hs : s.size ≤ 1048576) : spec_l2Seen.f s l = some ⟨(seenL s.data.toList l).toArray⟩ := by
  unfold spec_l2Seen.f
  rw [if_pos (by omega), l2S_l l _ (fun x hx => by rw [dlen]; exact okL_of hd x hx), layAll_seen]
  · rfl
  · rw [dlen]; have := hd.1; omega
  · intro x hx
    obtain ⟨h1, h2, h3, _⟩ := okL_of hd x hx
    rw [dlen]; exact ⟨h1, h2, h3⟩
theorem iIn (a b c : Int) : impl_within.f a b c = some (decide (b ≤ a ∧ a ≤ c)) := by
  unfold impl_within.f
  by_cases h : a ≥ b
  · rw [if_pos h]; congr 1; rw [decide_eq_decide]; omega
  · rw [if_neg h]; congr 1; symm; rw [decide_eq_false_iff_not]; omega
theorem iDOl (s : ByteArray) (l : List S67) (hs : s.size ≤ 1048576) (hl : l.length ≤ 1048576) : ∀ (n i : Nat), i + n = l.length → Ev (fun k => impl_DeviceOk.l0 k l (l.length : Int) (i : Int) s l) (okFromB s l i) := by
  intro n
  induction n with
  | zero =>
    intro i hi
    rw [okFromB_end s l i (by omega)]
    exact Ev.step (f := fun _ => some true) (fun k => by simp only [impl_DeviceOk.l0]; rw [if_neg (by omega)]) (Ev.now _)
  | succ n ih =>
    intro i hi
    have h := ih (i + 1) (by omega)
    have e1 : wrap64 ((s.size : Int) / 64) = (s.size : Int) / 64 := w64 (by omega) (by omega)
    have e2 : wrap64 ((s.size : Int) / 64 - 1) = (s.size : Int) / 64 - 1 := w64 (by omega) (by omega)
    have e3 : wrap64 ((i : Int) + 1) = ((i + 1 : Nat) : Int) := by rw [w64 (by omega) (by omega)]; rfl
    have e4 : wrap64 ((i : Int) - 1) = (i : Int) - 1 := w64 (by omega) (by omega)
    have no : ¬ lineOk s l i → (∀ k, impl_DeviceOk.l0 (k + 1) l (l.length : Int) (i : Int) s l = some false) → Ev (fun k => impl_DeviceOk.l0 k l (l.length : Int) (i : Int) s l) (okFromB s l i) := by
      intro hn hk
      rw [okFromB_no s l i (by omega) hn]
      exact Ev.step (f := fun _ => some false) hk (Ev.now _)
    have yes : lineOk s l i → (∀ k, impl_DeviceOk.l0 (k + 1) l (l.length : Int) (i : Int) s l = impl_DeviceOk.l0 k l (l.length : Int) ((i + 1 : Nat) : Int) s l) → Ev (fun k => impl_DeviceOk.l0 k l (l.length : Int) (i : Int) s l) (okFromB s l i) := by
      intro hy hk
      rw [okFromB_yes s l i hy]
      exact Ev.step (f := fun k => impl_DeviceOk.l0 k l (l.length : Int) ((i + 1 : Nat) : Int) s l) hk h
    have base : ∀ k, impl_DeviceOk.l0 (k + 1) l (l.length : Int) (i : Int) s l = _ := fun k => by
      simp (implicitDefEqProofs := false) only [impl_DeviceOk.l0, impl_Device_has.f, iIn, Option.bind_some, e1, e2, e3, e4, if_pos (show (i : Int) < (l.length : Int) by omega), if_pos (show (0 : Int) ≤ (i : Int) by omega)]
      rfl
    by_cases c1 : 0 ≤ (rd_T67 l i).f0 ∧ (rd_T67 l i).f0 ≤ (s.size : Int) / 64 - 1
    · have c1' : decide (0 ≤ (rd_T67 l i).f0 ∧ (rd_T67 l i).f0 ≤ (s.size : Int) / 64 - 1) = true := decide_eq_true c1
      have tail : ∀ (hb : 0 < i → (rd_T67 l ((i : Int) - 1)).f0 < (rd_T67 l i).f0) (hk : ∀ k, impl_DeviceOk.l0 (k + 1) l (l.length : Int) (i : Int) s l = (if (((rd_T67 l i).f1).size : Int) = 64 then (if (((rd_T67 l i).f2).size : Int) = 64 then (impl_DeviceOk.l0 k l (l.length : Int) ((i + 1 : Nat) : Int) s l) else (if ((rd_T67 l i).f2).toList = ([] : List UInt8) then (impl_DeviceOk.l0 k l (l.length : Int) ((i + 1 : Nat) : Int) s l) else (some false))) else (some false))), Ev (fun k => impl_DeviceOk.l0 k l (l.length : Int) (i : Int) s l) (okFromB s l i) := by
        intro hb hk
        by_cases c3 : (((rd_T67 l i).f1).size : Int) = 64
        · by_cases c4 : (((rd_T67 l i).f2).size : Int) = 64
          · exact yes ⟨c1, hb, by omega, .inl (by omega)⟩ (fun k => by rw [hk, if_pos c3, if_pos c4])
          · by_cases c5 : ((rd_T67 l i).f2).toList = ([] : List UInt8)
            · exact yes ⟨c1, hb, by omega, .inr c5⟩ (fun k => by rw [hk, if_pos c3, if_neg c4, if_pos c5])
            · exact no (fun z => by rcases z.2.2.2 with z | z; exact c4 (by omega); exact c5 z) (fun k => by rw [hk, if_pos c3, if_neg c4, if_neg c5])
        · exact no (fun z => c3 (by have := z.2.2.1; omega)) (fun k => by rw [hk, if_neg c3])
      by_cases c2 : (i : Int) > 0
      · by_cases c6 : (rd_T67 l i).f0 ≤ (rd_T67 l ((i : Int) - 1)).f0
        · exact no (fun z => by have := z.2.1 (by omega); omega) (fun k => by rw [base, c1', if_pos rfl, if_pos c2, if_pos (by omega), if_pos (by omega), if_pos c6])
        · exact tail (fun _ => by omega) (fun k => by rw [base, c1', if_pos rfl, if_pos c2, if_pos (by omega), if_pos (by omega), if_neg c6])
      · exact tail (fun z => by omega) (fun k => by rw [base, c1', if_pos rfl, if_neg c2])
    · have c1' : decide (0 ≤ (rd_T67 l i).f0 ∧ (rd_T67 l i).f0 ≤ (s.size : Int) / 64 - 1) = false := decide_eq_false c1
      exact no (fun z => c1 z.1) (fun k => by rw [base, c1', if_neg (by decide)])
theorem iDO (s : ByteArray) (l : List S67) (hs : s.size ≤ 1048576) (hl : l.length ≤ 1048576) : Ev (fun k => impl_DeviceOk.f k s l) (devOkB s l) := by
  have h := iDOl s l hs hl l.length 0 (by omega)
  have e1 : wrap64 ((s.size : Int) / 64) = (s.size : Int) / 64 := w64 (by omega) (by omega)
  have jt : Ev (fun k => impl_DeviceOk.j0 k true s l) false := Ev.step (f := fun _ => some false) (fun k => by simp only [impl_DeviceOk.j0, if_true]) (Ev.now _)
  have jf : Ev (fun k => impl_DeviceOk.j0 k false s l) (okFromB s l 0) := Ev.step (f := fun k => impl_DeviceOk.l0 k l (l.length : Int) ((0 : Nat) : Int) s l) (fun k => by simp only [impl_DeviceOk.j0]; rw [if_neg (by decide)]; rfl) h
  unfold impl_DeviceOk.f
  by_cases c : (s.size : Int) % 64 = 0
  · simp only [if_pos c, iIn, Option.bind_some, e1]
    by_cases d : 1 ≤ (s.size : Int) / 64 ∧ (s.size : Int) / 64 ≤ 128
    · rw [devOkB_go s l c d]; simpa [d] using jf
    · rw [devOkB_no s l (fun z => d z.2)]; simpa [d] using jt
  · simp only [if_neg c]
    rw [devOkB_no s l (fun z => c z.1)]; exact jt
theorem hasE (s : ByteArray) (l : List S67) (x : Int) (hs : s.size ≤ 1048576) : impl_Device_has.f s l x = some (decide (0 ≤ x ∧ x ≤ (s.size : Int) / 64 - 1)) := by
  unfold impl_Device_has.f
  rw [iIn, Option.bind_some, w64 (n := (s.size : Int) / 64) (by omega) (by omega), w64 (n := (s.size : Int) / 64 - 1) (by omega) (by omega)]
theorem safeE (s : ByteArray) (l : List S67) (i : Nat) (h : 64 * i + 64 ≤ s.size) (hs : s.size ≤ 1048576) : impl_Device_safeLine.f s l (i : Int) = some ⟨(blk s.data.toList i).toArray⟩ := by
  unfold impl_Device_safeLine.f
  rw [w64 (n := 64 * (i : Int)) (by omega) (by omega), w64 (n := 64 * (i : Int) + 64) (by omega) (by omega), if_pos (by omega), if_pos (by omega), if_pos (by omega)]
  congr 1
  apply ByteArray.ext
  rw [show (64 * (i : Int)).toNat = 64 * i by omega, show (64 * (i : Int) + 64).toNat = 64 * i + 64 by omega]
  apply Array.ext'
  unfold blk
  simp [ByteArray.data_extract, Array.toList_extract, List.extract_eq_take_drop]
  try (congr 1; omega)
theorem seenB_len (s : List UInt8) (i : Nat) (h : 64 * i + 64 ≤ s.length) : ∀ (l : List S67), (∀ x ∈ l, x.f1.size = 64) → (seenB s l i).length = 64 := by
  have key : ∀ (l : List S67) (a : List UInt8), a.length = 64 → (∀ x ∈ l, x.f1.size = 64) → (l.foldl (fun acc x => if x.f0 = (i : Int) then x.f1.data.toList else acc) a).length = 64 := by
    intro l
    induction l with
    | nil => intro a ha _; exact ha
    | cons x l ih =>
      intro a ha hx
      rw [List.foldl_cons]
      refine ih _ ?_ (fun y hy => hx y (by simp [hy]))
      split
      · rw [dlen]; exact hx x (by simp)
      · exact ha
  intro l hl
  exact key l _ (blk_length s i h) hl
theorem lineE (s : ByteArray) (l : List S67) (hd : DevOk s l) (hs : s.size ≤ 1048576) (hl : l.length ≤ 1048576) (i : Nat) (h : 64 * i + 64 ≤ s.size) : impl_Device_seenLine.f s l (i : Int) = some ⟨(seenB s.data.toList l i).toArray⟩ := by
  have hsr := srt_of hd
  have e := foldl_find (i : Int) l hsr (blk s.data.toList i)
  have ei : impl_Device_find.idx l (i : Int) = l.countP (fun x => decide (x.f0 < (i : Int))) := rfl
  unfold impl_Device_seenLine.f impl_Device_find.f
  rw [if_pos (show impl_Device_find.srt l from hsr), if_pos (by omega), Option.bind_some]
  simp only [ei]
  unfold seenB
  generalize hc : l.countP (fun x => decide (x.f0 < (i : Int))) = c at *
  have hle : c ≤ l.length := by rw [← hc]; exact List.countP_le_length
  by_cases c1 : c < l.length
  · have r := rd_nat l c c1
    have g : l[c]? = some l[c] := by simp [c1]
    have gd : l.getD c z67 = l[c] := by simp [List.getD, c1]
    rw [g, gd] at e
    rw [r]
    by_cases c2 : l[c].f0 = (i : Int)
    · rw [if_pos (by simp [c2])] at e
      rw [e]
      simp only [c1, c2, decide_true, Bool.and_self, if_true]
      rw [if_pos (by omega), if_pos (by omega)]
    · rw [if_neg (by simp [c2])] at e
      rw [e]
      simp only [c1, c2, decide_true, decide_false, Bool.and_false, Bool.false_eq_true, if_false]
      rw [safeE s l i h hs]; rfl
  · have g : l[c]? = none := by simp; omega
    rw [g] at e
    rw [if_neg (by simp)] at e
    rw [e]
    simp only [c1, decide_false, Bool.false_and, Bool.false_eq_true, if_false]
    rw [safeE s l i h hs]; rfl
theorem part_len (s : ByteArray) (l : List S67) (hd : DevOk s l) : ∀ i : Nat, 64 * i ≤ s.size → ((List.range i).flatMap (seenB s.data.toList l)).length = 64 * i
  | 0, _ => rfl
  | i + 1, h => by
    rw [List.range_succ, List.flatMap_append, List.length_append, part_len s l hd i (by omega)]
    simp only [List.flatMap_cons, List.flatMap_nil, List.append_nil]
    rw [seenB_len s.data.toList i (by rw [dlen]; omega) l (fun x hx => (okL_of hd x hx).2.2.1)]
    omega
theorem iSn_l (s : ByteArray) (l : List S67) (hd : DevOk s l) (hs : s.size ≤ 1048576) (hl : l.length ≤ 1048576) : ∀ (n i : Nat), i + n = s.size / 64 → Ev (fun k => impl_Device_seen.l s l k (i : Int) ((List.range i).flatMap (seenB s.data.toList l))) (seenL s.data.toList l) := by
  intro n
  have h1 := hd.1
  induction n with
  | zero =>
    intro i hi
    refine Ev.step (f := fun _ => some (seenL s.data.toList l)) (fun k => ?_) (Ev.now _)
    have ne : ¬ ((List.range i).flatMap (seenB s.data.toList l)) = [] := by
      intro z
      have := part_len s l hd i (by omega)
      rw [z] at this; simp at this; omega
    unfold impl_Device_seen.l
    rw [hasE s l _ hs, Option.bind_some, if_neg (by simp; omega), if_neg ne]
    unfold seenL
    rw [dlen, show s.size / 64 = i by omega]
  | succ n ih =>
    intro i hi
    have h := ih (i + 1) (by omega)
    have hp := part_len s l hd i (by omega)
    have hq : ((⟨(seenB s.data.toList l i).toArray⟩ : ByteArray)).size = 64 := by
      have := seenB_len s.data.toList i (by rw [dlen]; omega) l (fun x hx => (okL_of hd x hx).2.2.1)
      exact List.size_toArray.trans this
    refine Ev.step (f := fun k => impl_Device_seen.l s l k ((i + 1 : Nat) : Int) ((List.range (i + 1)).flatMap (seenB s.data.toList l))) (fun k => ?_) h
    rw [impl_Device_seen.l, hasE s l _ hs, Option.bind_some, if_pos (by simp; omega), lineE s l hd hs hl i (by omega), Option.bind_some, if_pos (by rw [hp, hq]; omega), List.range_succ, List.flatMap_append]
    simp
theorem iSn (s : ByteArray) (l : List S67) (hd : DevOk s l) (hs : s.size ≤ 1048576) (hl : l.length ≤ 1048576) : Ev (fun k => impl_Device_seen.f k s l) ⟨(seenL s.data.toList l).toArray⟩ := by
  have h := iSn_l s l hd hs hl (s.size / 64) 0 (by omega)
  refine evThen (g := fun k => impl_Device_seen.l s l k 0 []) (f := fun _ b => some ⟨b.toArray⟩) h (fun k => ?_) (Ev.now _)
  unfold impl_Device_seen.f
  cases impl_Device_seen.l s l k 0 [] <;> rfl
theorem seenL_size (s : ByteArray) (l : List S67) (hd : DevOk s l) : (⟨(seenL s.data.toList l).toArray⟩ : ByteArray).size = s.size := by
  have h := part_len s l hd (s.size / 64) (by omega)
  have h1 := hd.1
  refine List.size_toArray.trans ?_
  unfold seenL
  rw [dlen, h]; omega
noncomputable def loadP (s : ByteArray) (l : List S67) (a n : Int) : ByteArray × Bool := open Classical in if DevOk s l ∧ 0 ≤ a ∧ 0 ≤ n ∧ a + n ≤ (s.size : Int) then ((⟨(seenL s.data.toList l).toArray⟩ : ByteArray).extract a.toNat (a + n).toNat, true) else ((⟨#[]⟩ : ByteArray), false)
theorem sLo (s : ByteArray) (l : List S67) (a n : Int) (hs : s.size ≤ 1048576) (hl : l.length ≤ 1048576) (ha : -9223372036854775808 ≤ a ∧ a ≤ 9223372036854775807) (hn : -9223372036854775808 ≤ n ∧ n ≤ 9223372036854775807) : Ev (fun k => spec_Load.f k s l a n) (loadP s l a n) := by
  unfold spec_Load.f loadP
  refine evThen (sDO s l hs hl) (fun k => rfl) ?_
  by_cases c : DevOk s l
  · simp only [if_pos ((devOkB_iff s l).2 c), l2S s l c hs, Option.bind_some]
    by_cases c1 : a < 0
    · simp only [if_pos c1]; rw [if_neg (by omega)]; exact Ev.now _
    simp only [if_neg c1]
    by_cases c2 : n < 0
    · simp only [if_pos c2]; rw [if_neg (by omega)]; exact Ev.now _
    simp only [if_neg c2]
    by_cases c3 : a > (s.size : Int)
    · simp only [if_pos c3]; rw [if_neg (by omega)]; exact Ev.now _
    simp only [if_neg c3]
    rw [w64 (n := (s.size : Int) - a) (by omega) (by omega)]
    by_cases c4 : n > (s.size : Int) - a
    · simp only [if_pos c4]; rw [if_neg (by omega)]; exact Ev.now _
    simp only [if_neg c4]
    rw [w64 (n := a + n) (by omega) (by omega)]
    have z := seenL_size s l c
    rw [if_pos (⟨c, by omega, by omega, by omega⟩ : DevOk s l ∧ 0 ≤ a ∧ 0 ≤ n ∧ a + n ≤ (s.size : Int))]
    simp only [if_pos (show 0 ≤ a by omega), if_pos (show a ≤ a + n by omega), z, if_pos (show a + n ≤ (s.size : Int) by omega)]
    exact Ev.now _
  · have : ¬ devOkB s l = true := fun z => c ((devOkB_iff s l).1 z)
    simp only [if_neg this]; rw [if_neg (fun z => c z.1)]; exact Ev.now _
theorem iLo (s : ByteArray) (l : List S67) (a n : Int) (hs : s.size ≤ 1048576) (hl : l.length ≤ 1048576) (ha : -9223372036854775808 ≤ a ∧ a ≤ 9223372036854775807) (hn : -9223372036854775808 ≤ n ∧ n ≤ 9223372036854775807) : Ev (fun k => impl_Load.f k s l a n) (loadP s l a n) := by
  unfold impl_Load.f loadP
  refine evThen (iDO s l hs hl) (fun k => rfl) ?_
  by_cases c : DevOk s l
  · simp only [if_pos ((devOkB_iff s l).2 c)]
    by_cases c1 : a < 0
    · simp only [if_pos c1]; rw [if_neg (by omega)]; exact Ev.now _
    simp only [if_neg c1]
    rw [w64 (n := (s.size : Int) - a) (by omega) (by omega)]
    simp only [iIn, Option.bind_some]
    by_cases c2 : 0 ≤ n ∧ n ≤ (s.size : Int) - a
    · have c2' : decide (0 ≤ n ∧ n ≤ (s.size : Int) - a) = true := decide_eq_true c2
      simp only [c2', if_true]
      rw [w64 (n := a + n) (by omega) (by omega)]
      have z := seenL_size s l c
      refine evThen (iSn s l c hs hl) (fun k => rfl) ?_
      rw [if_pos (⟨c, by omega, by omega, by omega⟩ : DevOk s l ∧ 0 ≤ a ∧ 0 ≤ n ∧ a + n ≤ (s.size : Int))]
      simp only [if_pos (show 0 ≤ a by omega), if_pos (show a ≤ a + n by omega), z, if_pos (show a + n ≤ (s.size : Int) by omega)]
      exact Ev.now _
    · have c2' : decide (0 ≤ n ∧ n ≤ (s.size : Int) - a) = false := decide_eq_false c2
      simp only [c2', Bool.false_eq_true, if_false]
      rw [if_neg (by omega)]; exact Ev.now _
  · have : ¬ devOkB s l = true := fun z => c ((devOkB_iff s l).1 z)
    simp only [if_neg this]; rw [if_neg (fun z => c z.1)]; exact Ev.now _
theorem FnExactLoad (s : ByteArray) (l : List S92) (a n : Int) (hs : s.size ≤ 9223372036854775807) (hl : l.length ≤ 9223372036854775807) (ha : -9223372036854775808 ≤ a ∧ a ≤ 9223372036854775807) (hn : -9223372036854775808 ≤ n ∧ n ≤ 9223372036854775807) : ∃ k, laws_FnExactLoad.f k s l a n = some true := by
  refine Ev.rounds (r := true) ?_
  unfold laws_FnExactLoad.f
  obtain ⟨r, hr, hb⟩ := szDevice_ev s l hs hl
  refine evThen hr (fun k => rfl) ?_
  by_cases c : r < 0
  · simp only [if_pos c]; exact Ev.now _
  · obtain ⟨hs', hl'⟩ := hb (by omega)
    have hm : (l.map cv).length ≤ 1048576 := by rw [List.length_map]; exact hl'
    have t := toDevice_ev s l hl'
    simp only [if_neg c]
    refine evThen t (fun k => rfl) (evThen (sLo s (l.map cv) a n hs' hm ha hn) (fun k => rfl) (evThen t (fun k => rfl) (evThen (iLo s (l.map cv) a n hs' hm ha hn) (fun k => rfl) ?_)))
    simp only [if_true, bne_self_eq_false]
    refine Ev.step (f := fun k => _) (fun k => by simp (implicitDefEqProofs := false) only [laws_FnExactLoad.j0, Bool.false_eq_true, if_false]; rfl) ?_
    refine evThen t (fun k => rfl) (evThen (eqDevice_refl s (l.map cv) (by omega)) (fun k => rfl) ?_)
    simp only [if_true]
    exact Ev.now _
end Go.Proofs.Ytbbbajnnoficbaa.Pure
