/- The program's Store returns what the reference's returns, for all arguments: FnExactStore returns true for all arguments; no condition. -/
import Derived.Test.YtbbbajnnoficbaaPFnExactStorex0
import Derived.Test.YtbbbajnnoficbaaPFnExactStorex1
import Derived.Test.YtbbbajnnoficbaaPFnExactStorex2
import Derived.Test.YtbbbajnnoficbaaPFnExactStorex3
import Derived.Test.YtbbbajnnoficbaaPFnExactStorex4
import Derived.Test.YtbbbajnnoficbaaPFnExactStorex5
import Derived.Test.YtbbbajnnoficbaaPFnExactStorex6
import Derived.Test.YtbbbajnnoficbaaPFnExactStorex7
import Derived.Test.YtbbbajnnoficbaaPFnExactStorex8
namespace Go.Proofs.Ytbbbajnnoficbaa.Pure
open Go.RowKit Go.Proofs.Ytbbbajnnoficbaa.PFnExactStore Go.Proofs.YtbbbajnnoficbaaW.PrintWords Go.Proofs.YtbbbajnnoficbaaW.PrintLast
set_option linter.unusedVariables false
set_option linter.unusedSimpArgs false
theorem w64 {n : Int} (h0 : -9223372036854775808 ≤ n) (h1 : n ≤ 9223372036854775807) : wrap64 n = n := by unfold wrap64; omega
theorem evThen {α β : Type} {g : Nat → Option α} {h : Nat → Option β} {f : Nat → α → Option β} {a : α} {r : β} (e : Ev g a) (he : ∀ k, h k = (g k).bind (f k)) (k : Ev (fun n => f n a) r) : Ev h r := Ev.congr he (Ev.bind e k)
theorem evIs {α : Type} {g : Nat → Option α} {r : α} (h : ∀ k, g k = some r) : Ev g r := ⟨0, fun k _ => h k⟩
theorem evIs1 {α : Type} {g : Nat → Option α} {r : α} (h : ∀ k, g (k + 1) = some r) : Ev g r := ⟨1, fun k hk => by cases k with | zero => omega | succ k => exact h k⟩
theorem szLine_some (a : Int) (b c : ByteArray) (left : Int) : ∃ r, laws_szLine.f a b c left = some r := by
  unfold laws_szLine.f
  split
  · exact ⟨_, rfl⟩
  · split <;> exact ⟨_, rfl⟩
theorem szLineS_l (l : List S92) (hl : l.length ≤ 9223372036854775807) : ∀ (n : Nat) (left : Int) (i : Nat), i + n = l.length → ∃ r, Ev (fun k => laws_szLineS.l0 k l left (i : Int)) r := by
  intro n
  induction n with
  | zero => intro left i hi; exact ⟨left, Ev.step (f := fun _ => some left) (fun k => by simp only [laws_szLineS.l0]; rw [if_neg (by omega)]) (Ev.now _)⟩
  | succ n ih =>
    intro left i hi
    obtain ⟨r, hr⟩ := szLine_some (rd_T92 l i).f0 (rd_T92 l i).f1 (rd_T92 l i).f2 left
    by_cases c : r < 0
    · exact ⟨-1, Ev.step (f := fun _ => some (-1)) (fun k => by simp only [laws_szLineS.l0]; rw [if_pos (by omega), if_pos (by omega), hr, Option.bind_some, if_pos c]) (Ev.now _)⟩
    · obtain ⟨z, hz⟩ := ih r (i + 1) (by omega)
      refine ⟨z, Ev.step (f := fun k => laws_szLineS.l0 k l r ((i + 1 : Nat) : Int)) (fun k => ?_) hz⟩
      simp only [laws_szLineS.l0]
      rw [if_pos (by omega), if_pos (by omega), hr, Option.bind_some, if_neg c, w64 (by omega) (by omega)]
      rfl
theorem szLineS_ev (l : List S92) (hl : l.length ≤ 9223372036854775807) (left : Int) (h0 : left ≤ 1048576) (h1 : 0 ≤ left) : ∃ r, Ev (fun k => laws_szLineS.f k l left) r ∧ (0 ≤ r → l.length ≤ 1048576) := by
  by_cases c : wrap64 (left - (l.length : Int)) < 0
  · exact ⟨-1, evIs fun k => by unfold laws_szLineS.f; rw [if_pos c], by omega⟩
  · obtain ⟨r, hr⟩ := szLineS_l l hl l.length (wrap64 (left - (l.length : Int))) 0 (by omega)
    refine ⟨r, Ev.congr (fun k => by unfold laws_szLineS.f; rw [if_neg c]; rfl) hr, fun _ => ?_⟩
    rw [w64 (by omega) (by omega)] at c
    omega
theorem szDevice_ev (s : ByteArray) (l : List S92) (hs : s.size ≤ 9223372036854775807) (hl : l.length ≤ 9223372036854775807) : ∃ r, Ev (fun k => laws_szDevice.f k s l 1048576) r ∧ (0 ≤ r → s.size ≤ 1048576 ∧ l.length ≤ 1048576) := by
  by_cases c : wrap64 (1048576 - (s.size : Int)) < 0
  · exact ⟨-1, evIs fun k => by unfold laws_szDevice.f; rw [if_pos c], by omega⟩
  · have c' := c
    rw [w64 (by omega) (by omega)] at c'
    have e : wrap64 (1048576 - (s.size : Int)) = 1048576 - (s.size : Int) := w64 (by omega) (by omega)
    obtain ⟨r, hr, hb⟩ := szLineS_ev l hl (wrap64 (1048576 - (s.size : Int))) (by omega) (by omega)
    by_cases d : r < 0
    · exact ⟨-1, evThen hr (fun k => by unfold laws_szDevice.f; rw [if_neg c]) (evIs fun k => by rw [if_pos d]), by omega⟩
    · exact ⟨r, evThen hr (fun k => by unfold laws_szDevice.f; rw [if_neg c]) (evIs fun k => by rw [if_neg d]), fun _ => ⟨by omega, hb (by omega)⟩⟩
def cv (x : S92) : S67 := ⟨x.f0, x.f1, x.f2⟩
theorem toLineS_l (l : List S92) (hl : l.length ≤ 1048576) : ∀ (n i : Nat), i + n = l.length → Ev (fun k => laws_toLineS.l0 k l ((l.take i).map cv ++ List.replicate n z67) (i : Int)) (l.map cv) := by
  intro n
  induction n with
  | zero =>
    intro i hi
    refine Ev.step (f := fun _ => some (l.map cv)) (fun k => ?_) (Ev.now _)
    simp only [laws_toLineS.l0]
    rw [if_neg (by omega), List.take_of_length_le (by omega)]
    simp
  | succ n ih =>
    intro i hi
    have h := ih (i + 1) (by omega)
    refine Ev.step (f := fun k => laws_toLineS.l0 k l ((l.take (i + 1)).map cv ++ List.replicate n z67) ((i + 1 : Nat) : Int)) (fun k => ?_) h
    simp only [laws_toLineS.l0, laws_toLine.f, Option.bind_some]
    have hlen : ((l.take i).map cv ++ List.replicate (n + 1) z67).length = l.length := by simp; omega
    rw [if_pos (by omega), if_pos (by omega), if_pos (by rw [hlen]; omega), w64 (by omega) (by omega)]
    congr 1
    have hm : ((l.take i).map cv).length = i := by simp; omega
    rw [Int.toNat_natCast, List.set_append_right _ _ (by omega), hm, Nat.sub_self, List.replicate_succ, List.set_cons_zero, List.take_add_one, List.map_append, List.append_assoc]
    congr 1
    have hi' : i < l.length := by omega
    simp [rd_T92, List.getD, hi', cv]
theorem toDevice_ev (s : ByteArray) (l : List S92) (hl : l.length ≤ 1048576) : Ev (fun k => laws_toDevice.f k s l) (s, l.map cv) := by
  have h := toLineS_l l hl l.length 0 (by omega)
  unfold laws_toDevice.f
  refine evThen (g := fun k => laws_toLineS.f k l) (a := l.map cv) (Ev.congr (fun k => ?_) h) (fun k => rfl) (Ev.now _)
  unfold laws_toLineS.f
  rw [if_pos (by omega), if_pos (by omega)]
  simp
theorem eqLine_refl (a : Int) (b c : ByteArray) : laws_eqLine.f a b c a b c = some true := by unfold laws_eqLine.f; simp
theorem eqLineS_l (l : List S67) (hl : l.length ≤ 9223372036854775807) : ∀ (n i : Nat), i + n = l.length → Ev (fun k => laws_eqLineS.l0 k l l (i : Int)) true := by
  intro n
  induction n with
  | zero =>
    intro i hi
    refine Ev.step (f := fun _ => some true) (fun k => ?_) (Ev.now _)
    simp only [laws_eqLineS.l0]
    rw [if_neg (by omega)]
  | succ n ih =>
    intro i hi
    have h := ih (i + 1) (by omega)
    refine Ev.step (f := fun k => laws_eqLineS.l0 k l l ((i + 1 : Nat) : Int)) (fun k => ?_) h
    simp only [laws_eqLineS.l0]
    rw [if_pos (by omega), if_pos (by omega), if_pos (by omega), eqLine_refl, Option.bind_some, if_pos rfl, w64 (by omega) (by omega)]
    rfl
theorem eqDevice_refl (s : ByteArray) (l : List S67) (hl : l.length ≤ 9223372036854775807) : Ev (fun k => laws_eqDevice.f k s l s l) true := by
  unfold laws_eqDevice.f
  refine evThen (g := fun k => laws_eqLineS.f k l l) (Ev.congr (fun k => by unfold laws_eqLineS.f; rw [if_pos rfl]; rfl) (eqLineS_l l hl l.length 0 (by omega))) (f := fun _ t => if t = true then some true else some false) (fun k => by rw [if_pos rfl]) (evIs fun k => by rw [if_pos rfl])
theorem markText_l : ∀ (n : Nat) (x : Int) (t : ByteArray), x < 10 ^ n → x ≤ 1000000000 → t.size + n ≤ 1000 → ∃ r, Ev (fun k => laws_markText.l0 k x t) r := by
  intro n
  induction n with
  | zero =>
    intro x t h _ ht
    exact ⟨_, Ev.step (f := fun _ => some _) (fun k => by simp only [laws_markText.l0]; rw [if_neg (by simp at h; omega), if_pos (by omega)]) (Ev.now _)⟩
  | succ n ih =>
    intro x t h hx ht
    by_cases c : x > 0
    · have hs : ∀ z : Int, (strOfNums [z]).size = 1 := fun z => by rw [strOfNums_size]; rfl
      have hd : Int.tdiv x 10 = x / 10 := Int.tdiv_eq_ediv_of_nonneg (by omega)
      obtain ⟨r, hr⟩ := ih (x / 10) (strOfNums [(wrap64 (48 + (Int.tmod x 10))) % 256] ++ t) (by rw [Int.pow_succ] at h; omega) (by omega) (by rw [ByteArray.size_append, hs]; omega)
      refine ⟨r, Ev.step (f := fun k => laws_markText.l0 k (x / 10) (strOfNums [(wrap64 (48 + (Int.tmod x 10))) % 256] ++ t)) (fun k => ?_) hr⟩
      simp only [laws_markText.l0]
      rw [if_pos c, Option.bind_some, if_pos (by rw [hs]; omega), hd, w64 (by omega) (by omega)]
    · exact ⟨_, Ev.step (f := fun _ => some _) (fun k => by simp only [laws_markText.l0]; rw [if_neg c, if_pos (by omega)]) (Ev.now _)⟩
theorem markText_ev (a : Int) (h : a ≤ 1000000000) : ∃ r, Ev (fun k => laws_markText.f k a) r := by
  by_cases c : a ≤ 0
  · exact ⟨_, evIs fun k => by unfold laws_markText.f; rw [if_pos c]⟩
  · obtain ⟨r, hr⟩ := markText_l 10 a (⟨#[]⟩ : ByteArray) (by omega) h (by decide)
    exact ⟨r, Ev.congr (fun k => by unfold laws_markText.f; rw [if_neg c]) hr⟩
/-- A line of a right device, by its number. -/
def lineOk (s : ByteArray) (l : List S67) (i : Nat) : Prop :=
  (0 ≤ (rd_T67 l i).f0 ∧ (rd_T67 l i).f0 ≤ (s.size : Int) / 64 - 1) ∧ (0 < i → (rd_T67 l ((i : Int) - 1)).f0 < (rd_T67 l i).f0) ∧ (rd_T67 l i).f1.size = 64 ∧ ((rd_T67 l i).f2.size = 64 ∨ (rd_T67 l i).f2.toList = [])
def DevOk (s : ByteArray) (l : List S67) : Prop := ((s.size : Int) % 64 = 0 ∧ 1 ≤ (s.size : Int) / 64 ∧ (s.size : Int) / 64 ≤ 128) ∧ ∀ j, j < l.length → lineOk s l j
/-- The lines from i on. -/
def okFrom (s : ByteArray) (l : List S67) (i : Nat) : Prop := ∀ j, i ≤ j → j < l.length → lineOk s l j
open Classical in
noncomputable def okFromB (s : ByteArray) (l : List S67) (i : Nat) : Bool := decide (okFrom s l i)
open Classical in
noncomputable def devOkB (s : ByteArray) (l : List S67) : Bool := decide (DevOk s l)
open Classical in
theorem okFromB_end (s : ByteArray) (l : List S67) (i : Nat) (h : l.length ≤ i) : okFromB s l i = true := by
  unfold okFromB; exact decide_eq_true (fun j h1 h2 => by omega)
open Classical in
theorem okFromB_no (s : ByteArray) (l : List S67) (i : Nat) (h : i < l.length) (hn : ¬ lineOk s l i) : okFromB s l i = false := by
  unfold okFromB; exact decide_eq_false (fun z => hn (z i (Nat.le_refl i) h))
open Classical in
theorem okFromB_yes (s : ByteArray) (l : List S67) (i : Nat) (hy : lineOk s l i) : okFromB s l i = okFromB s l (i + 1) := by
  unfold okFromB
  congr 1
  refine propext ⟨fun z j h1 h2 => z j (by omega) h2, fun z j h1 h2 => ?_⟩
  by_cases e : j = i
  · subst e; exact hy
  · exact z j (by omega) h2
open Classical in
theorem devOkB_no (s : ByteArray) (l : List S67) (h : ¬ ((s.size : Int) % 64 = 0 ∧ 1 ≤ (s.size : Int) / 64 ∧ (s.size : Int) / 64 ≤ 128)) : devOkB s l = false := by
  unfold devOkB; exact decide_eq_false (fun z => h z.1)
open Classical in
theorem devOkB_go (s : ByteArray) (l : List S67) (h : (s.size : Int) % 64 = 0) (h' : 1 ≤ (s.size : Int) / 64 ∧ (s.size : Int) / 64 ≤ 128) : devOkB s l = okFromB s l 0 := by
  unfold devOkB okFromB
  congr 1
  exact propext ⟨fun z j _ h2 => z.2 j h2, fun z => ⟨⟨h, h'⟩, fun j h2 => z j (Nat.zero_le j) h2⟩⟩
open Classical in
theorem devOkB_iff (s : ByteArray) (l : List S67) : devOkB s l = true ↔ DevOk s l := by
  unfold devOkB; exact decide_eq_true_iff
def safeL (s : ByteArray) (a : Int) : ByteArray := s.extract (64 * a).toNat (64 * a + 64).toNat
theorem rd_nat (l : List S67) (i : Nat) (h : i < l.length) : rd_T67 l (i : Int) = l[i] := by simp [rd_T67, List.getD, h]
noncomputable def mT (a : Int) : ByteArray := open Classical in if h : a ≤ 1000000000 then Classical.choose (markText_ev a h) else (⟨#[]⟩ : ByteArray)
theorem mT_ev (a : Int) (h : a ≤ 1000000000) : Ev (fun k => laws_markText.f k a) (mT a) := by
  unfold mT; rw [dif_pos h]; exact Classical.choose_spec (markText_ev a h)
noncomputable def mL : Nat → Int → List S67
  | 0, _ => []
  | n + 1, a => ⟨a, mT (a + 1), mT (a + 2)⟩ :: mL n (a + 3)
theorem mL_len : ∀ n a, (mL n a).length = n
  | 0, _ => rfl
  | n + 1, a => by simp [mL, mL_len n]
theorem mL_succ : ∀ (n : Nat) (a : Int), mL (n + 1) a = mL n a ++ [⟨a + 3 * n, mT (a + 3 * n + 1), mT (a + 3 * n + 2)⟩]
  | 0, a => by simp [mL]
  | n + 1, a => by
    show (⟨a, mT (a + 1), mT (a + 2)⟩ : S67) :: mL (n + 1) (a + 3) = _
    rw [mL_succ n (a + 3)]
    have e : a + 3 + 3 * (n : Int) = a + 3 * ((n + 1 : Nat) : Int) := by omega
    rw [e]
    rfl
theorem mL_get : ∀ (n : Nat) (a : Int) (i : Nat), i < n → (mL n a)[i]? = some ⟨a + 3 * i, mT (a + 3 * i + 1), mT (a + 3 * i + 2)⟩
  | 0, _, _, h => absurd h (by omega)
  | n + 1, a, 0, _ => by simp [mL]
  | n + 1, a, i + 1, h => by
    simp only [mL, List.getElem?_cons_succ]
    rw [mL_get n (a + 3) i (by omega)]
    have e : a + 3 + 3 * (i : Int) = a + 3 * ((i + 1 : Nat) : Int) := by omega
    rw [e]
theorem rd_mid (p r : List S67) (y : S67) (i : Nat) (h : p.length = i) : rd_T67 (p ++ y :: r) (i : Int) = y := by
  subst h; simp [rd_T67, List.getD]
theorem set_mid (p r : List S67) (y z : S67) (i : Nat) (h : p.length = i) : (p ++ y :: r).set i z = p ++ z :: r := by
  subst h; rw [List.set_append_right _ _ (by omega), Nat.sub_self, List.set_cons_zero]
theorem markLs_l (l : List S67) (hl : l.length ≤ 1048576) : ∀ (n i : Nat), i + n = l.length → Ev (fun k => laws_markLineS.l0 k (mL i 1 ++ l.drop i) (1 + 3 * (i : Int)) (i : Int)) (1 + 3 * (l.length : Int), mL l.length 1) := by
  intro n
  induction n with
  | zero =>
    intro i hi
    obtain rfl : i = l.length := by omega
    refine Ev.step (f := fun _ => some _) (fun k => ?_) (Ev.now _)
    simp only [laws_markLineS.l0]
    rw [if_neg (by simp [mL_len])]
    simp
  | succ n ih =>
    intro i hi
    have h := ih (i + 1) (by omega)
    have e1 : wrap64 (1 + 3 * (i : Int) + 1) = 1 + 3 * (i : Int) + 1 := w64 (by omega) (by omega)
    have e2 : wrap64 (1 + 3 * (i : Int) + 1 + 1) = 1 + 3 * (i : Int) + 2 := by rw [w64 (by omega) (by omega)]; omega
    have e3 : wrap64 (1 + 3 * (i : Int) + 2 + 1) = 1 + 3 * ((i + 1 : Nat) : Int) := by rw [w64 (by omega) (by omega)]; omega
    have e4 : wrap64 ((i : Int) + 1) = ((i + 1 : Nat) : Int) := by rw [w64 (by omega) (by omega)]; rfl
    have c1 : (i : Int) < ((mL i 1 ++ l.drop i).length : Int) := by simp [mL_len]; omega
    refine Ev.step (f := fun k => (laws_markText.f k (1 + 3 * (i : Int) + 1)).bind fun t1 => (laws_markText.f k (1 + 3 * (i : Int) + 2)).bind fun t2 => laws_markLineS.l0 k (mL i 1 ++ (⟨1 + 3 * (i : Int), t1, t2⟩ : S67) :: l.drop (i + 1)) (1 + 3 * ((i + 1 : Nat) : Int)) ((i + 1 : Nat) : Int)) (fun k => ?_)
      (evThen (mT_ev (1 + 3 * (i : Int) + 1) (by omega)) (fun k => rfl) (evThen (mT_ev (1 + 3 * (i : Int) + 2) (by omega)) (fun k => rfl) ?_))
    · rw [laws_markLineS.l0, if_pos c1, if_pos (show (0 : Int) ≤ (i : Int) by omega)]
      rw [List.drop_eq_getElem_cons (by omega)]
      simp (implicitDefEqProofs := false) only [Option.bind_some, e1, e2, e3, e4, Int.toNat_natCast, set_mid _ _ _ _ i (mL_len i 1), rd_mid _ _ _ i (mL_len i 1)]
    · rw [mL_succ, List.append_assoc] at h
      exact h
theorem heldLs_l (m : Nat) (hm : m ≤ 1048576) : ∀ (n i : Nat), i + n = m → Ev (fun k => laws_heldLineS.l0 k (mL m 1) (1 + 3 * (i : Int)) (i : Int)) (1 + 3 * (m : Int)) := by
  intro n
  induction n with
  | zero =>
    intro i hi
    obtain rfl : i = m := by omega
    refine Ev.step (f := fun _ => some _) (fun k => ?_) (Ev.now _)
    simp only [laws_heldLineS.l0]
    rw [if_neg (by simp [mL_len])]
  | succ n ih =>
    intro i hi
    have h := ih (i + 1) (by omega)
    have e1 : wrap64 (1 + 3 * (i : Int) + 1) = 1 + 3 * (i : Int) + 1 := w64 (by omega) (by omega)
    have e2 : wrap64 (1 + 3 * (i : Int) + 1 + 1) = 1 + 3 * (i : Int) + 2 := by rw [w64 (by omega) (by omega)]; omega
    have e3 : wrap64 (1 + 3 * (i : Int) + 2 + 1) = 1 + 3 * ((i + 1 : Nat) : Int) := by rw [w64 (by omega) (by omega)]; omega
    have e4 : wrap64 ((i : Int) + 1) = ((i + 1 : Nat) : Int) := by rw [w64 (by omega) (by omega)]; rfl
    have er : rd_T67 (mL m 1) (i : Int) = ⟨1 + 3 * (i : Int), mT (1 + 3 * (i : Int) + 1), mT (1 + 3 * (i : Int) + 2)⟩ := by simp [rd_T67, List.getD, mL_get m 1 i (by omega)]
    refine Ev.step (f := fun k => (laws_markText.f k (1 + 3 * (i : Int) + 1)).bind fun t1 => if (mT (1 + 3 * (i : Int) + 1)).toList = t1.toList then (laws_markText.f k (1 + 3 * (i : Int) + 2)).bind fun t2 => if (mT (1 + 3 * (i : Int) + 2)).toList = t2.toList then laws_heldLineS.l0 k (mL m 1) (1 + 3 * ((i + 1 : Nat) : Int)) ((i + 1 : Nat) : Int) else some (-1) else some (-1)) (fun k => ?_)
      (evThen (mT_ev (1 + 3 * (i : Int) + 1) (by omega)) (fun k => rfl) ?_)
    · rw [laws_heldLineS.l0, if_pos (by rw [mL_len]; omega), if_pos (show (0 : Int) ≤ (i : Int) by omega)]
      simp (implicitDefEqProofs := false) only [e1, e2, e3, e4, er, if_true]
    · simp only [if_true]
      refine evThen (mT_ev (1 + 3 * (i : Int) + 2) (by omega)) (fun k => rfl) ?_
      simp only [if_true]
      exact h
theorem markHeld_ev (s : ByteArray) (l : List S67) (hl : l.length ≤ 1048576) : Ev (fun k => laws_markDevice.f k s l 1) (1 + 3 * (l.length : Int), mL l.length 1) ∧ ∀ s', Ev (fun k => laws_heldDevice.f k s' (mL l.length 1) 1) (1 + 3 * (l.length : Int)) := by
  constructor
  · have h := markLs_l l hl l.length 0 (by omega)
    refine evThen (g := fun k => laws_markLineS.f k l 1) (a := (1 + 3 * (l.length : Int), mL l.length 1)) ?_ (f := fun _ b => some (b.1, b.2)) (fun k => by unfold laws_markDevice.f; rfl) (Ev.now _)
    simpa [laws_markLineS.f, mL] using h
  · intro s'
    have h := heldLs_l l.length hl l.length 0 (by omega)
    refine evThen (g := fun k => laws_heldLineS.f k (mL l.length 1) 1) (a := 1 + 3 * (l.length : Int)) ?_ (f := fun _ t => if t < 0 then some (-1) else some t) (fun k => by unfold laws_heldDevice.f; rfl) ?_
    · simpa [laws_heldLineS.f] using h
    · rw [if_neg (by omega)]; exact Ev.now _
theorem sIn (a b c : Int) : spec_l1In.f a b c = some (decide (b ≤ a ∧ a ≤ c)) := by
  unfold spec_l1In.f
  by_cases h : a ≥ b
  · rw [if_pos h]; congr 1; rw [decide_eq_decide]; omega
  · rw [if_neg h]; congr 1; symm; rw [decide_eq_false_iff_not]; omega
theorem sDOl (s : ByteArray) (l : List S67) (hs : s.size ≤ 1048576) (hl : l.length ≤ 1048576) : ∀ (n i : Nat), i + n = l.length → Ev (fun k => spec_DeviceOk.l0 k (i : Int) s l) (okFromB s l i) := by
  intro n
  induction n with
  | zero =>
    intro i hi
    rw [okFromB_end s l i (by omega)]
    exact Ev.step (f := fun _ => some true) (fun k => by simp only [spec_DeviceOk.l0]; rw [if_neg (by omega)]) (Ev.now _)
  | succ n ih =>
    intro i hi
    have h := ih (i + 1) (by omega)
    have e1 : wrap64 ((s.size : Int) / 64) = (s.size : Int) / 64 := w64 (by omega) (by omega)
    have e2 : wrap64 ((s.size : Int) / 64 - 1) = (s.size : Int) / 64 - 1 := w64 (by omega) (by omega)
    have e3 : wrap64 ((i : Int) + 1) = ((i + 1 : Nat) : Int) := by rw [w64 (by omega) (by omega)]; rfl
    have e4 : wrap64 ((i : Int) - 1) = (i : Int) - 1 := w64 (by omega) (by omega)
    have no : ¬ lineOk s l i → (∀ k, spec_DeviceOk.l0 (k + 1) (i : Int) s l = some false) → Ev (fun k => spec_DeviceOk.l0 k (i : Int) s l) (okFromB s l i) := by
      intro hn hk
      rw [okFromB_no s l i (by omega) hn]
      exact Ev.step (f := fun _ => some false) hk (Ev.now _)
    have yes : lineOk s l i → (∀ k, spec_DeviceOk.l0 (k + 1) (i : Int) s l = spec_DeviceOk.l0 k ((i + 1 : Nat) : Int) s l) → Ev (fun k => spec_DeviceOk.l0 k (i : Int) s l) (okFromB s l i) := by
      intro hy hk
      rw [okFromB_yes s l i hy]
      exact Ev.step (f := fun k => spec_DeviceOk.l0 k ((i + 1 : Nat) : Int) s l) hk h
    have base : ∀ k, spec_DeviceOk.l0 (k + 1) (i : Int) s l = _ := fun k => by
      simp (implicitDefEqProofs := false) only [spec_DeviceOk.l0, spec_l2Count.f, sIn, Option.bind_some, e1, e2, e3, e4, if_pos (show (i : Int) < (l.length : Int) by omega), if_pos (show (0 : Int) ≤ (i : Int) by omega)]
      rfl
    by_cases c1 : 0 ≤ (rd_T67 l i).f0 ∧ (rd_T67 l i).f0 ≤ (s.size : Int) / 64 - 1
    · have c1' : decide (0 ≤ (rd_T67 l i).f0 ∧ (rd_T67 l i).f0 ≤ (s.size : Int) / 64 - 1) = true := decide_eq_true c1
      have tail : ∀ (hb : 0 < i → (rd_T67 l ((i : Int) - 1)).f0 < (rd_T67 l i).f0) (hk : ∀ k, spec_DeviceOk.l0 (k + 1) (i : Int) s l = (if (((rd_T67 l i).f1).size : Int) = 64 then (if (((rd_T67 l i).f2).size : Int) = 64 then (spec_DeviceOk.l0 k ((i + 1 : Nat) : Int) s l) else (if ((rd_T67 l i).f2).toList = ([] : List UInt8) then (spec_DeviceOk.l0 k ((i + 1 : Nat) : Int) s l) else (some false))) else (some false))), Ev (fun k => spec_DeviceOk.l0 k (i : Int) s l) (okFromB s l i) := by
        intro hb hk
        by_cases c3 : (((rd_T67 l i).f1).size : Int) = 64
        · by_cases c4 : (((rd_T67 l i).f2).size : Int) = 64
          · exact yes ⟨c1, hb, by omega, .inl (by omega)⟩ (fun k => by rw [hk, if_pos c3, if_pos c4])
          · by_cases c5 : ((rd_T67 l i).f2).toList = ([] : List UInt8)
            · exact yes ⟨c1, hb, by omega, .inr c5⟩ (fun k => by rw [hk, if_pos c3, if_neg c4, if_pos c5])
            · exact no (fun z => by rcases z.2.2.2 with z | z; exact c4 (by omega); exact c5 z) (fun k => by rw [hk, if_pos c3, if_neg c4, if_neg c5])
        · exact no (fun z => c3 (by have := z.2.2.1; omega)) (fun k => by rw [hk, if_neg c3])
      by_cases c2 : (i : Int) > 0
      · by_cases c6 : (rd_T67 l i).f0 ≤ (rd_T67 l ((i : Int) - 1)).f0
        · exact no (fun z => by have := z.2.1 (by omega); omega) (fun k => by rw [base, c1', if_pos rfl, if_pos c2, if_pos (by omega), if_pos (by omega), if_pos c6])
        · exact tail (fun _ => by omega) (fun k => by rw [base, c1', if_pos rfl, if_pos c2, if_pos (by omega), if_pos (by omega), if_neg c6])
      · exact tail (fun z => by omega) (fun k => by rw [base, c1', if_pos rfl, if_neg c2])
    · have c1' : decide (0 ≤ (rd_T67 l i).f0 ∧ (rd_T67 l i).f0 ≤ (s.size : Int) / 64 - 1) = false := decide_eq_false c1
      exact no (fun z => c1 z.1) (fun k => by rw [base, c1', if_neg (by decide)])
theorem sDO (s : ByteArray) (l : List S67) (hs : s.size ≤ 1048576) (hl : l.length ≤ 1048576) : Ev (fun k => spec_DeviceOk.f k s l) (devOkB s l) := by
  have h := sDOl s l hs hl l.length 0 (by omega)
  have e1 : wrap64 ((s.size : Int) / 64) = (s.size : Int) / 64 := w64 (by omega) (by omega)
  have jt : Ev (fun k => spec_DeviceOk.j0 k true s l) false := Ev.step (f := fun _ => some false) (fun k => by simp only [spec_DeviceOk.j0, if_true]) (Ev.now _)
  have jf : Ev (fun k => spec_DeviceOk.j0 k false s l) (okFromB s l 0) := Ev.step (f := fun k => spec_DeviceOk.l0 k ((0 : Nat) : Int) s l) (fun k => by simp only [spec_DeviceOk.j0]; rw [if_neg (by decide)]; rfl) h
  unfold spec_DeviceOk.f
  by_cases c : (s.size : Int) % 64 = 0
  · simp only [if_pos c, spec_l2Count.f, sIn, Option.bind_some, e1]
    by_cases d : 1 ≤ (s.size : Int) / 64 ∧ (s.size : Int) / 64 ≤ 128
    · rw [devOkB_go s l c d]; simpa [d] using jf
    · rw [devOkB_no s l (fun z => d z.2)]; simpa [d] using jt
  · simp only [if_neg c]
    rw [devOkB_no s l (fun z => c z.1)]; exact jt
/-- a text with some bytes replaced from a place on -/
def withP (s : ByteArray) (a : Nat) (d : ByteArray) : ByteArray := (s.extract 0 a ++ d) ++ s.extract (a + d.size) s.size
theorem sWith (s : ByteArray) (a : Nat) (d : ByteArray) (h : a + d.size ≤ s.size) (hs : s.size ≤ 4611686018427387904) : spec_l2With.f s a d = some (withP s a d) := by
  unfold spec_l2With.f withP
  have e1 : wrap64 ((a : Int) + (d.size : Int)) = ((a + d.size : Nat) : Int) := by rw [w64 (by omega) (by omega)]; omega
  rw [if_pos (by omega), if_pos (by omega), if_pos (by rw [ByteArray.size_extract]; omega), e1, if_pos (by omega), if_pos (by omega), if_pos (by rw [ByteArray.size_append, ByteArray.size_extract, ByteArray.size_extract]; omega)]
  simp only [Int.toNat_natCast]
/-- What a right device says of each of its lines. -/
def okL (m : Nat) (x : S67) : Prop := 0 ≤ x.f0 ∧ 64 * x.f0 + 64 ≤ (m : Int) ∧ x.f1.size = 64 ∧ (x.f2.size = 64 ∨ x.f2.size = 0)
theorem okL_of {s : ByteArray} {l : List S67} (hd : DevOk s l) : ∀ x ∈ l, okL s.size x := by
  intro x hx
  obtain ⟨i, hi, rfl⟩ := List.getElem_of_mem hx
  have h := hd.2 i hi
  have h1 := hd.1
  unfold lineOk at h
  rw [rd_nat l i hi] at h
  obtain ⟨⟨a, b⟩, _, c, d⟩ := h
  refine ⟨a, by omega, c, ?_⟩
  rcases d with d | d
  · exact .inl d
  · refine .inr ?_
    rw [ByteArray.toList_eq] at d
    have : l[i].f2.data.toList.length = 0 := by rw [d]; rfl
    simpa using this
/-- one line after a store of t at its place o -/
def stx (y : Int) (o : Nat) (t : ByteArray) (x : S67) : S67 := if x.f0 = y then ⟨x.f0, withP x.f1 o t, x.f2⟩ else x
def stNew (s : ByteArray) (y : Int) (o : Nat) (t : ByteArray) : S67 := ⟨y, withP (safeL s y) o t, (⟨#[]⟩ : ByteArray)⟩
def storeL (s : ByteArray) (y : Int) (o : Nat) (t : ByteArray) : Bool → List S67 → List S67 → List S67
  | d, [], acc => if d = true then acc else acc ++ [stNew s y o t]
  | d, x :: xs, acc => if d = false ∧ y < x.f0 then storeL s y o t true xs (acc ++ [stNew s y o t] ++ [x]) else if x.f0 = y then storeL s y o t true xs (acc ++ [stx y o t x]) else storeL s y o t d xs (acc ++ [x])
theorem store_nil (s : ByteArray) (y : Int) (o : Nat) (t : ByteArray) (d : Bool) (acc : List S67) : storeL s y o t d [] acc = if d = true then acc else acc ++ [stNew s y o t] := rfl
theorem store_cons (s : ByteArray) (y : Int) (o : Nat) (t : ByteArray) (d : Bool) (x : S67) (xs acc : List S67) : storeL s y o t d (x :: xs) acc = if d = false ∧ y < x.f0 then storeL s y o t true xs (acc ++ [stNew s y o t] ++ [x]) else if x.f0 = y then storeL s y o t true xs (acc ++ [stx y o t x]) else storeL s y o t d xs (acc ++ [x]) := rfl
theorem safeL_size (s : ByteArray) (y : Int) (hy : 0 ≤ y) (hs : 64 * y + 64 ≤ (s.size : Int)) : (safeL s y).size = 64 := by
  unfold safeL; rw [ByteArray.size_extract]; omega
theorem sSt_l (l : List S67) (s : ByteArray) (y a : Int) (o : Nat) (t : ByteArray) (hm : s.size ≤ 1048576) (hl : l.length ≤ 1048576) (hy : 0 ≤ y) (hs : 64 * y + 64 ≤ (s.size : Int)) (ha : Int.tmod a 64 = (o : Int)) (ht : o + t.size ≤ 64) (hd : ∀ x ∈ l, x.f0 = y → x.f1.size = 64) :
    ∀ (n i : Nat) (d : Bool) (acc : List S67), i + n = l.length → acc.length ≤ 2 * i → Ev (fun k => spec_l2Store.l0 k a t y d (i : Int) s l s acc) (s, storeL s y o t d (l.drop i) acc) := by
  have w1 : wrap64 (64 * y) = 64 * y := w64 (by omega) (by omega)
  have w2 : wrap64 (wrap64 (64 * y) + 64) = 64 * y + 64 := by rw [w1]; exact w64 (by omega) (by omega)
  have g1 : 0 ≤ 64 * y := by omega
  have g2 : 64 * y ≤ 64 * y + 64 := by omega
  have ez : spec_l2With.f (s.extract (64 * y).toNat (64 * y + 64).toNat) (Int.tmod a 64) t = some (withP (safeL s y) o t) := by
    have hz := safeL_size s y hy hs
    rw [ha]
    exact sWith (safeL s y) o t (by omega) (by omega)
  intro n
  induction n with
  | zero =>
    intro i d acc hi hacc
    rw [List.drop_of_length_le (by omega)]
    have b1 : acc.length < 3518437208883 := by omega
    have nb : ¬ ((i : Int) < (l.length : Int)) := by omega
    refine evIs1 (fun k => ?_)
    rw [spec_l2Store.l0, if_neg nb, store_nil]
    by_cases c : d = true
    · rw [if_pos c, if_pos c]
    · rw [if_neg c, if_neg c, w2, w1, if_pos g1, if_pos g2, if_pos hs, ez, Option.bind_some, if_pos b1]
      rfl
  | succ n ih =>
    intro i d acc hi hacc
    have hi' : i < l.length := by omega
    have b1 : acc.length < 3518437208883 := by omega
    have l1 : ∀ x : S67, (acc ++ [x]).length ≤ 2 * (i + 1) := fun x => by rw [List.length_append, List.length_singleton]; omega
    have l2 : ∀ x z : S67, (acc ++ [x] ++ [z]).length ≤ 2 * (i + 1) := fun x z => by rw [List.length_append, List.length_append, List.length_singleton, List.length_singleton]; omega
    have b2 : ∀ x : S67, (acc ++ [x]).length < 3518437208883 := fun x => Nat.lt_of_le_of_lt (l1 x) (by omega)
    have q1 : (i : Int) < (l.length : Int) := Int.ofNat_lt.2 hi'
    have q2 : 0 ≤ (i : Int) := Int.natCast_nonneg i
    have q5 : (i + 1) + n = l.length := by omega
    have e4 : wrap64 ((i : Int) + 1) = ((i + 1 : Nat) : Int) := by rw [w64 (by omega) (by omega)]; rfl
    have dl : l.drop i = l[i] :: l.drop (i + 1) := List.drop_eq_getElem_cons hi'
    have r := rd_nat l i hi'
    have hx : l[i].f0 = y → spec_l2With.f l[i].f1 (Int.tmod a 64) t = some (withP l[i].f1 o t) := fun e => by
      have := hd l[i] (List.getElem_mem _) e
      rw [ha]; exact sWith _ o t (by omega) (by omega)
    rw [dl, store_cons]
    have key : ∀ (dd : Bool) (acc' : List S67), acc'.length ≤ 2 * (i + 1) → Ev (fun k => spec_l2Store.l0 k a t y dd ((i + 1 : Nat) : Int) s l s acc') (s, storeL s y o t dd (l.drop (i + 1)) acc') := fun dd acc' h' => ih (i + 1) dd acc' q5 h'
    by_cases c1 : d = false ∧ y < l[i].f0
    · rw [if_pos c1]
      have nx : ¬ l[i].f0 = y := by omega
      have k1 := key true _ (l2 (stNew s y o t) l[i])
      refine Ev.step (f := fun k => spec_l2Store.j1 k a t y d (i : Int) true s l s acc l[i].f0 l[i].f1 l[i].f2) (fun k => ?_) (Ev.step (fun k => ?_) k1)
      · have hg : decide (l[i].f0 > y) = true := decide_eq_true c1.2
        have ne : ¬ d = true := by rw [c1.1]; decide
        rw [spec_l2Store.l0, if_pos q1, if_pos q2, if_neg ne, r, hg]
      · rw [spec_l2Store.j1, if_pos rfl, w2, w1, if_pos g1, if_pos g2, if_pos hs, ez, Option.bind_some, if_pos b1, Option.bind_some, if_neg nx, if_pos (b2 _), e4]
        rfl
    · rw [if_neg c1]
      have hj : ∀ k, spec_l2Store.l0 (k + 1) a t y d (i : Int) s l s acc = spec_l2Store.j1 k a t y d (i : Int) false s l s acc l[i].f0 l[i].f1 l[i].f2 := fun k => by
        rw [spec_l2Store.l0, if_pos q1, if_pos q2, r]
        by_cases cd : d = true
        · rw [if_pos cd]
        · rw [if_neg cd, decide_eq_false (fun z => c1 ⟨Bool.eq_false_iff.2 cd, z⟩)]
      refine Ev.step (f := fun k => spec_l2Store.j1 k a t y d (i : Int) false s l s acc l[i].f0 l[i].f1 l[i].f2) hj ?_
      by_cases c2 : l[i].f0 = y
      · rw [if_pos c2]
        refine Ev.step (fun k => ?_) (key true _ (l1 (stx y o t l[i])))
        rw [spec_l2Store.j1, if_neg (by decide), if_pos c2, hx c2, Option.bind_some, if_pos b1, e4]
        unfold stx
        rw [if_pos c2]
      · rw [if_neg c2]
        refine Ev.step (fun k => ?_) (key d _ (l1 l[i]))
        rw [spec_l2Store.j1, if_neg (by decide), if_neg c2, if_pos b1, e4]
theorem sSt (l : List S67) (s : ByteArray) (y : Int) (o : Nat) (t : ByteArray) (hm : s.size ≤ 1048576) (hl : l.length ≤ 1048576) (hy : 0 ≤ y) (hs : 64 * y + 64 ≤ (s.size : Int)) (ho : o < 64) (ht : o + t.size ≤ 64) (hd : ∀ x ∈ l, x.f0 = y → x.f1.size = 64) :
    Ev (fun k => spec_l2Store.f k s l (64 * y + (o : Int)) t) (s, storeL s y o t false l []) := by
  have e1 : Int.tdiv (64 * y + (o : Int)) 64 = y := by rw [Int.tdiv_eq_ediv_of_nonneg (by omega)]; omega
  have e2 : Int.tmod (64 * y + (o : Int)) 64 = (o : Int) := by rw [Int.tmod_eq_emod_of_nonneg (by omega)]; omega
  have h := sSt_l l s y (64 * y + (o : Int)) o t hm hl hy hs e2 ht hd l.length 0 false [] (by omega) (by simp)
  refine Ev.congr (fun k => ?_) h
  unfold spec_l2Store.f
  rw [e1, w64 (by omega) (by omega)]
  rfl
theorem store_len (s : ByteArray) (y : Int) (o : Nat) (t : ByteArray) : ∀ (l : List S67) (d : Bool) (acc : List S67), (storeL s y o t d l acc).length ≤ acc.length + l.length + (if d = true then 0 else 1)
  | [], d, acc => by
    rw [store_nil]; by_cases c : d = true
    · rw [if_pos c, if_pos c]; simp
    · rw [if_neg c, if_neg c]; simp
  | x :: xs, d, acc => by
    rw [store_cons]
    by_cases c : d = false ∧ y < x.f0
    · rw [if_pos c]
      refine Nat.le_trans (store_len s y o t xs true _) ?_
      rw [c.1]; simp; omega
    · rw [if_neg c]
      by_cases c2 : x.f0 = y
      · rw [if_pos c2]
        refine Nat.le_trans (store_len s y o t xs true _) ?_
        simp; omega
      · rw [if_neg c2]
        refine Nat.le_trans (store_len s y o t xs d _) ?_
        simp; omega
theorem iIn (a b c : Int) : impl_within.f a b c = some (decide (b ≤ a ∧ a ≤ c)) := by
  unfold impl_within.f
  by_cases h : a ≥ b
  · rw [if_pos h]; congr 1; rw [decide_eq_decide]; omega
  · rw [if_neg h]; congr 1; symm; rw [decide_eq_false_iff_not]; omega
theorem iDOl (s : ByteArray) (l : List S67) (hs : s.size ≤ 1048576) (hl : l.length ≤ 1048576) : ∀ (n i : Nat), i + n = l.length → Ev (fun k => impl_DeviceOk.l0 k l (l.length : Int) (i : Int) s l) (okFromB s l i) := by
  intro n
  induction n with
  | zero =>
    intro i hi
    rw [okFromB_end s l i (by omega)]
    exact Ev.step (f := fun _ => some true) (fun k => by simp only [impl_DeviceOk.l0]; rw [if_neg (by omega)]) (Ev.now _)
  | succ n ih =>
    intro i hi
    have h := ih (i + 1) (by omega)
    have e1 : wrap64 ((s.size : Int) / 64) = (s.size : Int) / 64 := w64 (by omega) (by omega)
    have e2 : wrap64 ((s.size : Int) / 64 - 1) = (s.size : Int) / 64 - 1 := w64 (by omega) (by omega)
    have e3 : wrap64 ((i : Int) + 1) = ((i + 1 : Nat) : Int) := by rw [w64 (by omega) (by omega)]; rfl
    have e4 : wrap64 ((i : Int) - 1) = (i : Int) - 1 := w64 (by omega) (by omega)
    have no : ¬ lineOk s l i → (∀ k, impl_DeviceOk.l0 (k + 1) l (l.length : Int) (i : Int) s l = some false) → Ev (fun k => impl_DeviceOk.l0 k l (l.length : Int) (i : Int) s l) (okFromB s l i) := by
      intro hn hk
      rw [okFromB_no s l i (by omega) hn]
      exact Ev.step (f := fun _ => some false) hk (Ev.now _)
    have yes : lineOk s l i → (∀ k, impl_DeviceOk.l0 (k + 1) l (l.length : Int) (i : Int) s l = impl_DeviceOk.l0 k l (l.length : Int) ((i + 1 : Nat) : Int) s l) → Ev (fun k => impl_DeviceOk.l0 k l (l.length : Int) (i : Int) s l) (okFromB s l i) := by
      intro hy hk
      rw [okFromB_yes s l i hy]
      exact Ev.step (f := fun k => impl_DeviceOk.l0 k l (l.length : Int) ((i + 1 : Nat) : Int) s l) hk h
    have base : ∀ k, impl_DeviceOk.l0 (k + 1) l (l.length : Int) (i : Int) s l = _ := fun k => by
      simp (implicitDefEqProofs := false) only [impl_DeviceOk.l0, impl_Device_has.f, iIn, Option.bind_some, e1, e2, e3, e4, if_pos (show (i : Int) < (l.length : Int) by omega), if_pos (show (0 : Int) ≤ (i : Int) by omega)]
      rfl
    by_cases c1 : 0 ≤ (rd_T67 l i).f0 ∧ (rd_T67 l i).f0 ≤ (s.size : Int) / 64 - 1
    · have c1' : decide (0 ≤ (rd_T67 l i).f0 ∧ (rd_T67 l i).f0 ≤ (s.size : Int) / 64 - 1) = true := decide_eq_true c1
      have tail : ∀ (hb : 0 < i → (rd_T67 l ((i : Int) - 1)).f0 < (rd_T67 l i).f0) (hk : ∀ k, impl_DeviceOk.l0 (k + 1) l (l.length : Int) (i : Int) s l = (if (((rd_T67 l i).f1).size : Int) = 64 then (if (((rd_T67 l i).f2).size : Int) = 64 then (impl_DeviceOk.l0 k l (l.length : Int) ((i + 1 : Nat) : Int) s l) else (if ((rd_T67 l i).f2).toList = ([] : List UInt8) then (impl_DeviceOk.l0 k l (l.length : Int) ((i + 1 : Nat) : Int) s l) else (some false))) else (some false))), Ev (fun k => impl_DeviceOk.l0 k l (l.length : Int) (i : Int) s l) (okFromB s l i) := by
        intro hb hk
        by_cases c3 : (((rd_T67 l i).f1).size : Int) = 64
        · by_cases c4 : (((rd_T67 l i).f2).size : Int) = 64
          · exact yes ⟨c1, hb, by omega, .inl (by omega)⟩ (fun k => by rw [hk, if_pos c3, if_pos c4])
          · by_cases c5 : ((rd_T67 l i).f2).toList = ([] : List UInt8)
            · exact yes ⟨c1, hb, by omega, .inr c5⟩ (fun k => by rw [hk, if_pos c3, if_neg c4, if_pos c5])
            · exact no (fun z => by rcases z.2.2.2 with z | z; exact c4 (by omega); exact c5 z) (fun k => by rw [hk, if_pos c3, if_neg c4, if_neg c5])
        · exact no (fun z => c3 (by have := z.2.2.1; omega)) (fun k => by rw [hk, if_neg c3])
      by_cases c2 : (i : Int) > 0
      · by_cases c6 : (rd_T67 l i).f0 ≤ (rd_T67 l ((i : Int) - 1)).f0
        · exact no (fun z => by have := z.2.1 (by omega); omega) (fun k => by rw [base, c1', if_pos rfl, if_pos c2, if_pos (by omega), if_pos (by omega), if_pos c6])
        · exact tail (fun _ => by omega) (fun k => by rw [base, c1', if_pos rfl, if_pos c2, if_pos (by omega), if_pos (by omega), if_neg c6])
      · exact tail (fun z => by omega) (fun k => by rw [base, c1', if_pos rfl, if_neg c2])
    · have c1' : decide (0 ≤ (rd_T67 l i).f0 ∧ (rd_T67 l i).f0 ≤ (s.size : Int) / 64 - 1) = false := decide_eq_false c1
      exact no (fun z => c1 z.1) (fun k => by rw [base, c1', if_neg (by decide)])
theorem iDO (s : ByteArray) (l : List S67) (hs : s.size ≤ 1048576) (hl : l.length ≤ 1048576) : Ev (fun k => impl_DeviceOk.f k s l) (devOkB s l) := by
  have h := iDOl s l hs hl l.length 0 (by omega)
  have e1 : wrap64 ((s.size : Int) / 64) = (s.size : Int) / 64 := w64 (by omega) (by omega)
  have jt : Ev (fun k => impl_DeviceOk.j0 k true s l) false := Ev.step (f := fun _ => some false) (fun k => by simp only [impl_DeviceOk.j0, if_true]) (Ev.now _)
  have jf : Ev (fun k => impl_DeviceOk.j0 k false s l) (okFromB s l 0) := Ev.step (f := fun k => impl_DeviceOk.l0 k l (l.length : Int) ((0 : Nat) : Int) s l) (fun k => by simp only [impl_DeviceOk.j0]; rw [if_neg (by decide)]; rfl) h
  unfold impl_DeviceOk.f
  by_cases c : (s.size : Int) % 64 = 0
  · simp only [if_pos c, iIn, Option.bind_some, e1]
    by_cases d : 1 ≤ (s.size : Int) / 64 ∧ (s.size : Int) / 64 ≤ 128
    · rw [devOkB_go s l c d]; simpa [d] using jf
    · rw [devOkB_no s l (fun z => d z.2)]; simpa [d] using jt
  · simp only [if_neg c]
    rw [devOkB_no s l (fun z => c z.1)]; exact jt
def srt (l : List S67) : Prop := l.Pairwise (fun x y => x.f0 < y.f0)
theorem srt_of {s : ByteArray} {l : List S67} (hd : DevOk s l) : srt l := by
  have h1 : ∀ i, i + 1 < l.length → (rd_T67 l (i : Int)).f0 < (rd_T67 l ((i + 1 : Nat) : Int)).f0 := by
    intro i hi
    have := (hd.2 (i + 1) hi).2.1 (by omega)
    rwa [show (((i + 1 : Nat) : Int) - 1) = (i : Int) by omega] at this
  have h2 : ∀ (d i : Nat), i + (d + 1) < l.length → (rd_T67 l (i : Int)).f0 < (rd_T67 l ((i + (d + 1) : Nat) : Int)).f0 := by
    intro d
    induction d with
    | zero => intro i hi; exact h1 i hi
    | succ d ih =>
      intro i hi
      have a := ih i (by omega)
      have b := h1 (i + (d + 1)) (by omega)
      rw [show i + (d + 1 + 1) = i + (d + 1) + 1 by omega]
      omega
  unfold srt
  rw [List.pairwise_iff_getElem]
  intro i j hi hj hij
  have := h2 (j - i - 1) i (by omega)
  rw [show i + (j - i - 1 + 1) = j by omega, rd_nat l i hi, rd_nat l j hj] at this
  exact this
theorem rd_mid2 (p r : List S67) (y : S67) (i : Nat) (h : p.length = i) : rd_T67 (p ++ y :: r) (i : Int) = y := by
  subst h; simp [rd_T67, List.getD]
theorem set_mid2 (p r : List S67) (y z : S67) (i : Nat) (h : p.length = i) : (p ++ y :: r).set i z = p ++ z :: r := by
  subst h; rw [List.set_append_right _ _ (by omega), Nat.sub_self, List.set_cons_zero]
theorem iWith (s : ByteArray) (a : Nat) (d : ByteArray) (h : a + d.size ≤ s.size) (hs : s.size ≤ 4611686018427387904) : impl_replaced.f s a d = some (withP s a d) := sWith s a d h hs
theorem st_pre (s : ByteArray) (y : Int) (o : Nat) (t : ByteArray) (r : List S67) : ∀ (p acc : List S67), (∀ x ∈ p, x.f0 < y) → storeL s y o t false (p ++ r) acc = storeL s y o t false r (acc ++ p)
  | [], acc, _ => by simp
  | x :: p, acc, h => by
    have hx := h x (by simp)
    rw [List.cons_append, store_cons, if_neg (by intro z; omega), if_neg (by omega), st_pre s y o t r p (acc ++ [x]) (fun z hz => h z (by simp [hz]))]
    simp
theorem st_done (s : ByteArray) (y : Int) (o : Nat) (t : ByteArray) : ∀ (r acc : List S67), (∀ x ∈ r, x.f0 ≠ y) → storeL s y o t true r acc = acc ++ r
  | [], acc, _ => by rw [store_nil, if_pos rfl]; simp
  | x :: r, acc, h => by
    have hx := h x (by simp)
    rw [store_cons, if_neg (by intro z; exact absurd z.1 (by decide)), if_neg hx, st_done s y o t r (acc ++ [x]) (fun z hz => h z (by simp [hz]))]
    simp
theorem split_srt (y : Int) : ∀ (l : List S67), srt l → ∃ p r, l = p ++ r ∧ (∀ x ∈ p, x.f0 < y) ∧ (∀ x ∈ r, y ≤ x.f0)
  | [], _ => ⟨[], [], rfl, (fun x hx => by cases hx), (fun x hx => by cases hx)⟩
  | x :: l, h => by
    have hx := (List.pairwise_cons.1 h).1
    obtain ⟨p, r, e, h1, h2⟩ := split_srt y l (List.pairwise_cons.1 h).2
    by_cases c : x.f0 < y
    · refine ⟨x :: p, r, by rw [e]; rfl, fun z hz => ?_, h2⟩
      rcases List.mem_cons.1 hz with rfl | hz
      · exact c
      · exact h1 z hz
    · refine ⟨[], x :: l, rfl, (fun z hz => by cases hz), fun z hz => ?_⟩
      rcases List.mem_cons.1 hz with rfl | hz
      · omega
      · have := hx z hz; omega
theorem idx_split (y : Int) (p r : List S67) (h1 : ∀ x ∈ p, x.f0 < y) (h2 : ∀ x ∈ r, y ≤ x.f0) : impl_Device_find.idx (p ++ r) y = p.length := by
  unfold impl_Device_find.idx
  rw [List.countP_append, List.countP_eq_length.2 (fun x hx => by simpa using h1 x hx), List.countP_eq_zero.2 (fun x hx => by have := h2 x hx; simp; omega)]
  rfl
theorem safeLine_eq (s : ByteArray) (l : List S67) (y : Int) (hs : s.size ≤ 1048576) (hy : 0 ≤ y) (h : 64 * y + 64 ≤ (s.size : Int)) : impl_Device_safeLine.f s l y = some (safeL s y) := by
  have e1 : wrap64 (64 * y) = 64 * y := w64 (by omega) (by omega)
  have e2 : wrap64 (64 * y + 64) = 64 * y + 64 := w64 (by omega) (by omega)
  unfold impl_Device_safeLine.f
  rw [e1, e2, if_pos (by omega), if_pos (by omega), if_pos h]
  rfl
/-- The program's way of a store: the line is found, or laid at its place; then its bytes are replaced. -/
theorem put_store (s : ByteArray) (l : List S67) (y : Int) (o : Nat) (t : ByteArray) (hs : s.size ≤ 1048576) (hl : l.length ≤ 1048576) (hd : DevOk s l) (hy : 0 ≤ y) (hys : 64 * y + 64 ≤ (s.size : Int)) (ht : o + t.size ≤ 64) :
    ((impl_Device_find.f s l y).bind fun q => (impl_Store.ins s l y q.1 q.2).bind fun L => impl_Store.fin L (o : Int) t q.1) = some (storeL s y o t false l []) := by
  have hsr := srt_of hd
  have hok := okL_of hd
  have e2 : impl_Device_find.f s l y = some (((impl_Device_find.idx l y : Nat) : Int), (decide (impl_Device_find.idx l y < l.length) && decide ((rd_T67 l (impl_Device_find.idx l y : Nat)).f0 = y))) := by
    unfold impl_Device_find.f
    rw [if_pos (show impl_Device_find.srt l from hsr), if_pos (by omega)]
  obtain ⟨p, r, e, h1, h2⟩ := split_srt y l hsr
  have hidx := idx_split y p r h1 h2
  subst e
  rw [e2, hidx, Option.bind_some]
  simp only
  by_cases c : ∃ x r', r = x :: r' ∧ x.f0 = y
  · obtain ⟨x, r', rfl, hx⟩ := c
    have rx : rd_T67 (p ++ x :: r') ((p.length : Nat) : Int) = x := rd_mid2 p r' x p.length rfl
    have eb : (decide (p.length < (p ++ x :: r').length) && decide ((rd_T67 (p ++ x :: r') ((p.length : Nat) : Int)).f0 = y)) = true := by rw [rx]; simp [hx]
    have nr : ∀ z ∈ r', z.f0 ≠ y := fun z hz => by
      have := (List.pairwise_cons.1 (List.pairwise_append.1 hsr).2.1).1 z hz
      omega
    have hx1 := (hok x (by simp)).2.2.1
    rw [eb]
    unfold impl_Store.ins impl_Store.fin
    rw [if_pos rfl, Option.bind_some, rx, iWith x.f1 o t (by omega) (by omega), Option.bind_some, Int.toNat_natCast, set_mid2 p r' x _ p.length rfl]
    rw [st_pre s y o t (x :: r') p [] h1, store_cons, if_neg (by intro z; omega), if_pos hx, st_done s y o t r' _ nr]
    unfold stx
    rw [if_pos hx]
    simp
  · have eb : (decide (p.length < (p ++ r).length) && decide ((rd_T67 (p ++ r) ((p.length : Nat) : Int)).f0 = y)) = false := by
      cases r with
      | nil => simp
      | cons x r' =>
        rw [rd_mid2 p r' x p.length rfl]
        have : ¬ x.f0 = y := fun z => c ⟨x, r', rfl, z⟩
        simp [this]
    have zz : (safeL s y).size = 64 := safeL_size s y hy hys
    have rm : rd_T67 (p ++ (⟨y, safeL s y, (⟨#[]⟩ : ByteArray)⟩ : S67) :: r) ((p.length : Nat) : Int) = ⟨y, safeL s y, (⟨#[]⟩ : ByteArray)⟩ := rd_mid2 p r _ p.length rfl
    rw [eb]
    unfold impl_Store.ins impl_Store.fin
    rw [if_neg (by decide), safeLine_eq s _ y hs hy hys, Option.bind_some, if_pos (by omega), Option.bind_some, Int.toNat_natCast, List.take_left, List.drop_left, rm, iWith (safeL s y) o t (by omega) (by omega), Option.bind_some, set_mid2 p r _ _ p.length rfl]
    rw [st_pre s y o t r p [] h1]
    cases r with
    | nil => rw [store_nil, if_neg (by decide)]; rfl
    | cons x r' =>
      have hx : ¬ x.f0 = y := fun z => c ⟨x, r', rfl, z⟩
      have hx2 := h2 x (by simp)
      have nr : ∀ z ∈ r', z.f0 ≠ y := fun z hz => by
        have := (List.pairwise_cons.1 (List.pairwise_append.1 hsr).2.1).1 z hz
        omega
      rw [store_cons, if_pos ⟨rfl, by omega⟩, st_done s y o t r' _ nr]
      unfold stNew
      simp
noncomputable def storeP (s : ByteArray) (l : List S67) (a : Int) (t : ByteArray) : ByteArray × List S67 × Bool := open Classical in if DevOk s l ∧ (1 ≤ t.size ∧ t.size ≤ 64) ∧ 0 ≤ a ∧ a < (s.size : Int) ∧ a % 64 + (t.size : Int) ≤ 64 then (s, storeL s (a / 64) (a % 64).toNat t false l [], true) else ((⟨#[]⟩ : ByteArray), [], false)
theorem storeP_len (s : ByteArray) (l : List S67) (a : Int) (t : ByteArray) : (storeP s l a t).2.1.length ≤ l.length + 1 := by
  unfold storeP
  split
  · have := store_len s (a / 64) (a % 64).toNat t l false []; simp at this; simpa using this
  · simp
theorem srt_len (m : Int) : ∀ (l : List S67) (lo : Int), srt l → (∀ x ∈ l, lo ≤ x.f0 ∧ x.f0 < m) → lo ≤ m → (l.length : Int) ≤ m - lo
  | [], lo, _, _, h => by simp; omega
  | x :: l, lo, hs, h, hl => by
    have hx := (List.pairwise_cons.1 hs).1
    have h0 := h x (by simp)
    have := srt_len m l (x.f0 + 1) (List.pairwise_cons.1 hs).2 (fun z hz => ⟨by have := hx z hz; omega, (h z (by simp [hz])).2⟩) (by omega)
    rw [List.length_cons]; omega
theorem devOk_len {s : ByteArray} {l : List S67} (h : DevOk s l) : l.length ≤ 128 := by
  have h1 := h.1
  have := srt_len ((s.size : Int) / 64) l 0 (srt_of h) (fun x hx => by have := okL_of h x hx; exact ⟨this.1, by have := this.2.1; omega⟩) (by omega)
  omega
theorem storeP_len2 (s : ByteArray) (l : List S67) (a : Int) (t : ByteArray) : (storeP s l a t).2.1.length ≤ 1000 := by
  have h := storeP_len s l a t
  by_cases c : DevOk s l
  · have := devOk_len c; omega
  · unfold storeP; rw [if_neg (fun z => c z.1)]; simp
theorem tmod_nn {a : Int} (h : 0 ≤ a) : Int.tmod a 64 = (((a % 64).toNat : Nat) : Int) := by rw [Int.tmod_eq_emod_of_nonneg h]; omega
theorem tdiv_nn {a : Int} (h : 0 ≤ a) : Int.tdiv a 64 = a / 64 := Int.tdiv_eq_ediv_of_nonneg h
theorem sStP (s : ByteArray) (l : List S67) (a : Int) (t : ByteArray) (hs : s.size ≤ 1048576) (hl : l.length ≤ 1048576) (ht : t.size ≤ 1048576) : Ev (fun k => spec_Store.f k s l a t) (storeP s l a t) := by
  unfold spec_Store.f storeP
  refine evThen (sDO s l hs hl) (fun k => rfl) ?_
  by_cases c : DevOk s l
  · simp only [if_pos ((devOkB_iff s l).2 c), sIn, Option.bind_some]
    by_cases c2 : 1 ≤ t.size ∧ t.size ≤ 64
    · have c2' : decide (1 ≤ (t.size : Int) ∧ (t.size : Int) ≤ 64) = true := decide_eq_true (by omega)
      simp only [c2', if_true]
      by_cases c3 : a < 0
      · rw [if_neg (show ¬ (DevOk s l ∧ (1 ≤ t.size ∧ t.size ≤ 64) ∧ 0 ≤ a ∧ a < (s.size : Int) ∧ a % 64 + (t.size : Int) ≤ 64) from fun z => by omega)]
        simp only [if_pos c3]; exact Ev.now _
      · simp only [if_neg c3]
        by_cases c4 : a ≥ (s.size : Int)
        · rw [if_neg (show ¬ (DevOk s l ∧ (1 ≤ t.size ∧ t.size ≤ 64) ∧ 0 ≤ a ∧ a < (s.size : Int) ∧ a % 64 + (t.size : Int) ≤ 64) from fun z => by omega)]
          simp only [if_pos c4]; exact Ev.now _
        · simp only [if_neg c4]
          have e1 := tmod_nn (a := a) (by omega)
          rw [e1, w64 (by omega) (by omega)]
          by_cases c5 : (((a % 64).toNat : Nat) : Int) + (t.size : Int) > 64
          · rw [if_neg (show ¬ (DevOk s l ∧ (1 ≤ t.size ∧ t.size ≤ 64) ∧ 0 ≤ a ∧ a < (s.size : Int) ∧ a % 64 + (t.size : Int) ≤ 64) from fun z => by omega)]
            simp only [if_pos c5]; exact Ev.now _
          · rw [if_pos ⟨c, c2, by omega, by omega, by omega⟩]
            simp only [if_neg c5]
            have h64 := c.1
            have g := sSt l s (a / 64) (a % 64).toNat t hs hl (by omega) (by omega) (by omega) (by omega) (fun x hx _ => (okL_of c x hx).2.2.1)
            rw [show 64 * (a / 64) + (((a % 64).toNat : Nat) : Int) = a by omega] at g
            exact evThen g (fun k => rfl) (Ev.now _)
    · have c2' : decide (1 ≤ (t.size : Int) ∧ (t.size : Int) ≤ 64) = false := decide_eq_false (by omega)
      rw [if_neg (fun z => c2 z.2.1)]
      simp only [c2', Bool.false_eq_true, if_false]; exact Ev.now _
  · have : ¬ devOkB s l = true := fun z => c ((devOkB_iff s l).1 z)
    simp only [if_neg this]; rw [if_neg (fun z => c z.1)]; exact Ev.now _
theorem iStP (s : ByteArray) (l : List S67) (a : Int) (t : ByteArray) (hs : s.size ≤ 1048576) (hl : l.length ≤ 1048576) (ht : t.size ≤ 1048576) : Ev (fun k => impl_Store.f k s l a t) (storeP s l a t) := by
  unfold impl_Store.f storeP
  refine evThen (iDO s l hs hl) (fun k => rfl) ?_
  by_cases c : DevOk s l
  · simp only [if_pos ((devOkB_iff s l).2 c)]
    by_cases c3 : a < 0
    · rw [if_neg (show ¬ (DevOk s l ∧ (1 ≤ t.size ∧ t.size ≤ 64) ∧ 0 ≤ a ∧ a < (s.size : Int) ∧ a % 64 + (t.size : Int) ≤ 64) from fun z => by omega)]
      simp only [if_pos c3]; exact Ev.now _
    · simp only [if_neg c3]
      by_cases c4 : a < (s.size : Int)
      · have e1 := tmod_nn (a := a) (by omega)
        have e2 := tdiv_nn (a := a) (by omega)
        simp only [if_pos c4, iIn, Option.bind_some]
        rw [e1, e2, w64 (n := 64 - _) (by omega) (by omega), w64 (n := a / 64) (by omega) (by omega)]
        by_cases c5 : DevOk s l ∧ (1 ≤ t.size ∧ t.size ≤ 64) ∧ 0 ≤ a ∧ a < (s.size : Int) ∧ a % 64 + (t.size : Int) ≤ 64
        · have c5' : decide (1 ≤ (t.size : Int) ∧ (t.size : Int) ≤ 64 - (((a % 64).toNat : Nat) : Int)) = true := decide_eq_true (by omega)
          rw [if_pos c5]
          simp only [c5', if_true]
          have h64 := c.1
          have eo : impl_Device_own.f s l = some (s, l) := by
            unfold impl_Device_own.f impl_Line.f
            rw [if_pos (by omega)]; rfl
          have g := put_store s l (a / 64) (a % 64).toNat t hs hl c (by omega) (by omega) (by omega)
          obtain ⟨q, hq, g⟩ := Option.bind_eq_some_iff.1 g
          obtain ⟨L, hL, g⟩ := Option.bind_eq_some_iff.1 g
          refine evIs fun k => ?_
          rw [eo, Option.bind_some, hq, Option.bind_some, hL, Option.bind_some, g, Option.bind_some]
        · have c5' : decide (1 ≤ (t.size : Int) ∧ (t.size : Int) ≤ 64 - (((a % 64).toNat : Nat) : Int)) = false := decide_eq_false (fun z => c5 ⟨c, by omega, by omega, c4, by omega⟩)
          rw [if_neg c5]
          simp only [c5', Bool.false_eq_true, if_false]; exact Ev.now _
      · rw [if_neg (show ¬ (DevOk s l ∧ (1 ≤ t.size ∧ t.size ≤ 64) ∧ 0 ≤ a ∧ a < (s.size : Int) ∧ a % 64 + (t.size : Int) ≤ 64) from fun z => c4 z.2.2.2.1)]
        simp only [if_neg c4]; exact Ev.now _
  · have : ¬ devOkB s l = true := fun z => c ((devOkB_iff s l).1 z)
    simp only [if_neg this]; rw [if_neg (fun z => c z.1)]; exact Ev.now _
theorem FnExactStore (s : ByteArray) (l : List S92) (y : Int) (tx : ByteArray) (hs : s.size ≤ 9223372036854775807) (hl : l.length ≤ 9223372036854775807) (hy : -9223372036854775808 ≤ y ∧ y ≤ 9223372036854775807) (htx : tx.size ≤ 9223372036854775807) : ∃ k, laws_FnExactStore.f k s l y tx = some true := by
  refine Ev.rounds (r := true) ?_
  unfold laws_FnExactStore.f
  by_cases ct : (tx.size : Int) > 1048576
  · simp only [if_pos ct]; exact Ev.now _
  have ht' : tx.size ≤ 1048576 := by omega
  simp only [if_neg ct]
  obtain ⟨r, hr, hb⟩ := szDevice_ev s l hs hl
  refine evThen hr (fun k => rfl) ?_
  by_cases c : r < 0
  · simp only [if_pos c]; exact Ev.now _
  · obtain ⟨hs', hl'⟩ := hb (by omega)
    have hm : (l.map cv).length ≤ 1048576 := by rw [List.length_map]; exact hl'
    have t := toDevice_ev s l hl'
    have hp := Nat.le_trans (storeP_len2 s (l.map cv) y tx) (show 1000 ≤ 1048576 by decide)
    have hi := iStP s (l.map cv) y tx hs' hm ht'
    have hsp := sStP s (l.map cv) y tx hs' hm ht'
    generalize storeP s (l.map cv) y tx = R at *
    obtain ⟨R1, R2, R3⟩ := R
    simp only at hp
    have q1 := eqDevice_refl R1 R2 (by omega)
    have mh := markHeld_ev R1 R2 hp
    have mx := markHeld_ev s (l.map cv) hm
    have hc : ¬ (1 + 3 * (R2.length : Int) < 0) := by omega
    have hc2 : ¬ (1 + 3 * ((l.map cv).length : Int) < 0) := by omega
    have j2 : Ev (fun k => laws_FnExactStore.j2 k (1 + 3 * (R2.length : Int)) false R1 (mL R2.length 1)) true := by
      refine Ev.step (f := fun k => _) (fun k => by simp (implicitDefEqProofs := false) only [laws_FnExactStore.j2, Bool.false_eq_true, if_false]; rfl) ?_
      refine evThen (mh.2 _) (fun k => rfl) (evIs fun k => ?_)
      simp only [if_neg hc, if_true]
    have j1 : Ev (fun k => laws_FnExactStore.j1 k y tx R3 false s l R1 R2 R1 R2) true := by
      refine Ev.step (f := fun k => _) (fun k => by simp (implicitDefEqProofs := false) only [laws_FnExactStore.j1, Bool.false_eq_true, if_false]; rfl) ?_
      refine evThen mh.1 (fun k => rfl) (evThen (mh.2 _) (fun k => rfl) ?_)
      simp only [if_neg hc, if_true]
      refine evThen t (fun k => rfl) (evThen hi (fun k => rfl) (evThen q1 (fun k => rfl) ?_))
      simp only [if_true, bne_self_eq_false]
      exact j2
    have j0 : Ev (fun k => laws_FnExactStore.j0 k y tx R3 R3 false s l R1 R2 s (l.map cv) R1 R2) true := by
      refine Ev.step (f := fun k => _) (fun k => by simp (implicitDefEqProofs := false) only [laws_FnExactStore.j0, Bool.false_eq_true, if_false]; rfl) ?_
      refine evThen t (fun k => rfl) (evThen (eqDevice_refl s (l.map cv) (by omega)) (fun k => rfl) ?_)
      simp only [if_true]
      refine evThen mx.1 (fun k => rfl) ?_
      simp only [if_neg hc2]
      refine evThen q1 (fun k => rfl) ?_
      simp only [if_true, bne_self_eq_false]
      exact j1
    simp only [if_neg c]
    refine evThen t (fun k => rfl) (evThen hsp (fun k => rfl) (evThen t (fun k => rfl) (evThen hi (fun k => rfl) (evThen q1 (fun k => rfl) ?_))))
    simp only [if_true, bne_self_eq_false]
    exact j0
end Go.Proofs.Ytbbbajnnoficbaa.Pure
