/- What the printed functions compute, the program's Evict and the reference's give the same answer; no condition. -/
import Derived.Test.YtbbbajnnoficbaaPFnExactEvictx0
import Derived.Test.YtbbbajnnoficbaaPFnExactEvictx1
import Derived.Test.YtbbbajnnoficbaaPFnExactEvictx2
import Derived.Test.YtbbbajnnoficbaaPFnExactEvictx3
import Derived.Test.YtbbbajnnoficbaaPFnExactEvictx4
import Derived.Test.YtbbbajnnoficbaaPFnExactEvictx5
import Derived.Test.YtbbbajnnoficbaaPFnExactEvictx6
import Derived.Test.YtbbbajnnoficbaaPFnExactEvictx7
import Derived.Test.YtbbbajnnoficbaaPFnExactEvictx8
namespace Go.Proofs.Ytbbbajnnoficbaa.Pure
open Go.RowKit Go.Proofs.Ytbbbajnnoficbaa.PFnExactEvict Go.Proofs.YtbbbajnnoficbaaW.PrintWords Go.Proofs.YtbbbajnnoficbaaW.PrintLast
set_option linter.unusedVariables false
set_option linter.unusedSimpArgs false
theorem w64 {n : Int} (h0 : -9223372036854775808 ≤ n) (h1 : n ≤ 9223372036854775807) : wrap64 n = n := by unfold wrap64; omega
theorem u64 (n : Int) : IntKind.u64.wrap n = n % 18446744073709551616 := by simp [IntKind.wrap, IntKind.bits, IntKind.signed]
theorem wf64 {n : Int} (h : (Lit.int .i64 n).wf = true) : -9223372036854775808 ≤ n ∧ n ≤ 9223372036854775807 := by
  simp [Lit.wf, IntKind.min, IntKind.max, IntKind.bits, IntKind.signed] at h
  omega
theorem evThen {α β : Type} {g : Nat → Option α} {h : Nat → Option β} {f : Nat → α → Option β} {a : α} {r : β} (e : Ev g a) (he : ∀ k, h k = (g k).bind (f k)) (k : Ev (fun n => f n a) r) : Ev h r := Ev.congr he (Ev.bind e k)
theorem evIs {α : Type} {g : Nat → Option α} {r : α} (h : ∀ k, g k = some r) : Ev g r := ⟨0, fun k _ => h k⟩
theorem szLine_some (a : Int) (b c : ByteArray) (left : Int) : ∃ r, laws_szLine.f a b c left = some r := by
  unfold laws_szLine.f
  split
  · exact ⟨_, rfl⟩
  · split <;> exact ⟨_, rfl⟩
theorem szLineS_l (l : List S92) (hl : l.length ≤ 9223372036854775807) : ∀ (n : Nat) (left : Int) (i : Nat), i + n = l.length → ∃ r, Ev (fun k => laws_szLineS.l0 k l left (i : Int)) r := by
  intro n
  induction n with
  | zero => intro left i hi; exact ⟨left, Ev.step (f := fun _ => some left) (fun k => by simp only [laws_szLineS.l0]; rw [if_neg (by omega)]) (Ev.now _)⟩
  | succ n ih =>
    intro left i hi
    obtain ⟨r, hr⟩ := szLine_some (rd_T92 l i).f0 (rd_T92 l i).f1 (rd_T92 l i).f2 left
    by_cases c : r < 0
    · exact ⟨-1, Ev.step (f := fun _ => some (-1)) (fun k => by simp only [laws_szLineS.l0]; rw [if_pos (by omega), if_pos (by omega), hr, Option.bind_some, if_pos c]) (Ev.now _)⟩
    · obtain ⟨z, hz⟩ := ih r (i + 1) (by omega)
      refine ⟨z, Ev.step (f := fun k => laws_szLineS.l0 k l r ((i + 1 : Nat) : Int)) (fun k => ?_) hz⟩
      simp only [laws_szLineS.l0]
      rw [if_pos (by omega), if_pos (by omega), hr, Option.bind_some, if_neg c, w64 (by omega) (by omega)]
      rfl
theorem szLineS_ev (l : List S92) (hl : l.length ≤ 9223372036854775807) (left : Int) (h0 : left ≤ 1048576) (h1 : 0 ≤ left) : ∃ r, Ev (fun k => laws_szLineS.f k l left) r ∧ (0 ≤ r → l.length ≤ 1048576) := by
  by_cases c : wrap64 (left - (l.length : Int)) < 0
  · exact ⟨-1, evIs fun k => by unfold laws_szLineS.f; rw [if_pos c], by omega⟩
  · obtain ⟨r, hr⟩ := szLineS_l l hl l.length (wrap64 (left - (l.length : Int))) 0 (by omega)
    refine ⟨r, Ev.congr (fun k => by unfold laws_szLineS.f; rw [if_neg c]; rfl) hr, fun _ => ?_⟩
    rw [w64 (by omega) (by omega)] at c
    omega
theorem szDevice_ev (s : ByteArray) (l : List S92) (hs : s.size ≤ 9223372036854775807) (hl : l.length ≤ 9223372036854775807) : ∃ r, Ev (fun k => laws_szDevice.f k s l 1048576) r ∧ (0 ≤ r → s.size ≤ 1048576 ∧ l.length ≤ 1048576) := by
  by_cases c : wrap64 (1048576 - (s.size : Int)) < 0
  · exact ⟨-1, evIs fun k => by unfold laws_szDevice.f; rw [if_pos c], by omega⟩
  · have c' := c
    rw [w64 (by omega) (by omega)] at c'
    have e : wrap64 (1048576 - (s.size : Int)) = 1048576 - (s.size : Int) := w64 (by omega) (by omega)
    obtain ⟨r, hr, hb⟩ := szLineS_ev l hl (wrap64 (1048576 - (s.size : Int))) (by omega) (by omega)
    by_cases d : r < 0
    · exact ⟨-1, evThen hr (fun k => by unfold laws_szDevice.f; rw [if_neg c]) (evIs fun k => by rw [if_pos d]), by omega⟩
    · exact ⟨r, evThen hr (fun k => by unfold laws_szDevice.f; rw [if_neg c]) (evIs fun k => by rw [if_neg d]), fun _ => ⟨by omega, hb (by omega)⟩⟩
def cv (x : S92) : S67 := ⟨x.f0, x.f1, x.f2⟩
theorem toLineS_l (l : List S92) (hl : l.length ≤ 1048576) : ∀ (n i : Nat), i + n = l.length → Ev (fun k => laws_toLineS.l0 k l ((l.take i).map cv ++ List.replicate n z67) (i : Int)) (l.map cv) := by
  intro n
  induction n with
  | zero =>
    intro i hi
    refine Ev.step (f := fun _ => some (l.map cv)) (fun k => ?_) (Ev.now _)
    simp only [laws_toLineS.l0]
    rw [if_neg (by omega), List.take_of_length_le (by omega)]
    simp
  | succ n ih =>
    intro i hi
    have h := ih (i + 1) (by omega)
    refine Ev.step (f := fun k => laws_toLineS.l0 k l ((l.take (i + 1)).map cv ++ List.replicate n z67) ((i + 1 : Nat) : Int)) (fun k => ?_) h
    simp only [laws_toLineS.l0, laws_toLine.f, Option.bind_some]
    have hlen : ((l.take i).map cv ++ List.replicate (n + 1) z67).length = l.length := by simp; omega
    rw [if_pos (by omega), if_pos (by omega), if_pos (by rw [hlen]; omega), w64 (by omega) (by omega)]
    congr 1
    have hm : ((l.take i).map cv).length = i := by simp; omega
    rw [Int.toNat_natCast, List.set_append_right _ _ (by omega), hm, Nat.sub_self, List.replicate_succ, List.set_cons_zero, List.take_add_one, List.map_append, List.append_assoc]
    congr 1
    have hi' : i < l.length := by omega
    simp [rd_T92, List.getD, hi', cv]
theorem toDevice_ev (s : ByteArray) (l : List S92) (hl : l.length ≤ 1048576) : Ev (fun k => laws_toDevice.f k s l) (s, l.map cv) := by
  have h := toLineS_l l hl l.length 0 (by omega)
  unfold laws_toDevice.f
  refine evThen (g := fun k => laws_toLineS.f k l) (a := l.map cv) (Ev.congr (fun k => ?_) h) (fun k => rfl) (Ev.now _)
  unfold laws_toLineS.f
  rw [if_pos (by omega), if_pos (by omega)]
  simp
theorem eqLine_refl (a : Int) (b c : ByteArray) : laws_eqLine.f a b c a b c = some true := by unfold laws_eqLine.f; simp
theorem eqLineS_l (l : List S67) (hl : l.length ≤ 9223372036854775807) : ∀ (n i : Nat), i + n = l.length → Ev (fun k => laws_eqLineS.l0 k l l (i : Int)) true := by
  intro n
  induction n with
  | zero =>
    intro i hi
    refine Ev.step (f := fun _ => some true) (fun k => ?_) (Ev.now _)
    simp only [laws_eqLineS.l0]
    rw [if_neg (by omega)]
  | succ n ih =>
    intro i hi
    have h := ih (i + 1) (by omega)
    refine Ev.step (f := fun k => laws_eqLineS.l0 k l l ((i + 1 : Nat) : Int)) (fun k => ?_) h
    simp only [laws_eqLineS.l0]
    rw [if_pos (by omega), if_pos (by omega), if_pos (by omega), eqLine_refl, Option.bind_some, if_pos rfl, w64 (by omega) (by omega)]
    rfl
theorem eqDevice_refl (s : ByteArray) (l : List S67) (hl : l.length ≤ 9223372036854775807) : Ev (fun k => laws_eqDevice.f k s l s l) true := by
  unfold laws_eqDevice.f
  refine evThen (g := fun k => laws_eqLineS.f k l l) (Ev.congr (fun k => by unfold laws_eqLineS.f; rw [if_pos rfl]; rfl) (eqLineS_l l hl l.length 0 (by omega))) (f := fun _ t => if t = true then some true else some false) (fun k => by rw [if_pos rfl]) (evIs fun k => by rw [if_pos rfl])
theorem markText_l : ∀ (n : Nat) (x : Int) (t : ByteArray), x < 10 ^ n → x ≤ 1000000000 → t.size + n ≤ 1000 → ∃ r, Ev (fun k => laws_markText.l0 k x t) r := by
  intro n
  induction n with
  | zero =>
    intro x t h _ ht
    exact ⟨_, Ev.step (f := fun _ => some _) (fun k => by simp only [laws_markText.l0]; rw [if_neg (by simp at h; omega), if_pos (by omega)]) (Ev.now _)⟩
  | succ n ih =>
    intro x t h hx ht
    by_cases c : x > 0
    · have hs : ∀ z : Int, (strOfNums [z]).size = 1 := fun z => by rw [strOfNums_size]; rfl
      have hd : Int.tdiv x 10 = x / 10 := Int.tdiv_eq_ediv_of_nonneg (by omega)
      obtain ⟨r, hr⟩ := ih (x / 10) (strOfNums [(wrap64 (48 + (Int.tmod x 10))) % 256] ++ t) (by rw [Int.pow_succ] at h; omega) (by omega) (by rw [ByteArray.size_append, hs]; omega)
      refine ⟨r, Ev.step (f := fun k => laws_markText.l0 k (x / 10) (strOfNums [(wrap64 (48 + (Int.tmod x 10))) % 256] ++ t)) (fun k => ?_) hr⟩
      simp only [laws_markText.l0]
      rw [if_pos c, Option.bind_some, if_pos (by rw [hs]; omega), hd, w64 (by omega) (by omega)]
    · exact ⟨_, Ev.step (f := fun _ => some _) (fun k => by simp only [laws_markText.l0]; rw [if_neg c, if_pos (by omega)]) (Ev.now _)⟩
theorem markText_ev (a : Int) (h : a ≤ 1000000000) : ∃ r, Ev (fun k => laws_markText.f k a) r := by
  by_cases c : a ≤ 0
  · exact ⟨_, evIs fun k => by unfold laws_markText.f; rw [if_pos c]⟩
  · obtain ⟨r, hr⟩ := markText_l 10 a (⟨#[]⟩ : ByteArray) (by omega) h (by decide)
    exact ⟨r, Ev.congr (fun k => by unfold laws_markText.f; rw [if_neg c]) hr⟩
theorem markLineS_l : ∀ (n : Nat) (l : List S67) (i : Nat) (a : Int), l.length ≤ 1048576 → i + n = l.length → 0 ≤ a → a + 3 * n ≤ 100000000 → ∃ r, Ev (fun k => laws_markLineS.l0 k l a (i : Int)) r ∧ 0 ≤ r.1 := by
  intro n
  induction n with
  | zero =>
    intro l i a _ hi ha _
    exact ⟨(a, l), Ev.step (f := fun _ => some (a, l)) (fun k => by simp only [laws_markLineS.l0]; rw [if_neg (by omega)]) (Ev.now _), ha⟩
  | succ n ih =>
    intro l i a hl hi ha hb
    obtain ⟨t1, h1⟩ := markText_ev (a + 1) (by omega)
    obtain ⟨t2, h2⟩ := markText_ev (a + 1 + 1) (by omega)
    have e1 : wrap64 (a + 1) = a + 1 := w64 (by omega) (by omega)
    have e2 : wrap64 (a + 1 + 1) = a + 1 + 1 := w64 (by omega) (by omega)
    have e3 : wrap64 (a + 1 + 1 + 1) = a + 1 + 1 + 1 := w64 (by omega) (by omega)
    have e4 : wrap64 ((i : Int) + 1) = ((i + 1 : Nat) : Int) := by rw [w64 (by omega) (by omega)]; rfl
    obtain ⟨r, hr, h0⟩ := ih (((l.set i ⟨a, (rd_T67 l i).f1, (rd_T67 l i).f2⟩).set i ⟨(rd_T67 (l.set i ⟨a, (rd_T67 l i).f1, (rd_T67 l i).f2⟩) i).f0, t1, (rd_T67 (l.set i ⟨a, (rd_T67 l i).f1, (rd_T67 l i).f2⟩) i).f2⟩).set i ⟨(rd_T67 ((l.set i ⟨a, (rd_T67 l i).f1, (rd_T67 l i).f2⟩).set i ⟨(rd_T67 (l.set i ⟨a, (rd_T67 l i).f1, (rd_T67 l i).f2⟩) i).f0, t1, (rd_T67 (l.set i ⟨a, (rd_T67 l i).f1, (rd_T67 l i).f2⟩) i).f2⟩) i).f0, (rd_T67 ((l.set i ⟨a, (rd_T67 l i).f1, (rd_T67 l i).f2⟩).set i ⟨(rd_T67 (l.set i ⟨a, (rd_T67 l i).f1, (rd_T67 l i).f2⟩) i).f0, t1, (rd_T67 (l.set i ⟨a, (rd_T67 l i).f1, (rd_T67 l i).f2⟩) i).f2⟩) i).f1, t2⟩) (i + 1) (a + 1 + 1 + 1) (by simpa using hl) (by simp; omega) (by omega) (by omega)
    refine ⟨r, Ev.step (f := fun k => (laws_markText.f k (a + 1)).bind fun t1 => (laws_markText.f k (a + 1 + 1)).bind fun t2 => laws_markLineS.l0 k (((l.set i ⟨a, (rd_T67 l i).f1, (rd_T67 l i).f2⟩).set i ⟨(rd_T67 (l.set i ⟨a, (rd_T67 l i).f1, (rd_T67 l i).f2⟩) i).f0, t1, (rd_T67 (l.set i ⟨a, (rd_T67 l i).f1, (rd_T67 l i).f2⟩) i).f2⟩).set i ⟨(rd_T67 ((l.set i ⟨a, (rd_T67 l i).f1, (rd_T67 l i).f2⟩).set i ⟨(rd_T67 (l.set i ⟨a, (rd_T67 l i).f1, (rd_T67 l i).f2⟩) i).f0, t1, (rd_T67 (l.set i ⟨a, (rd_T67 l i).f1, (rd_T67 l i).f2⟩) i).f2⟩) i).f0, (rd_T67 ((l.set i ⟨a, (rd_T67 l i).f1, (rd_T67 l i).f2⟩).set i ⟨(rd_T67 (l.set i ⟨a, (rd_T67 l i).f1, (rd_T67 l i).f2⟩) i).f0, t1, (rd_T67 (l.set i ⟨a, (rd_T67 l i).f1, (rd_T67 l i).f2⟩) i).f2⟩) i).f1, t2⟩) (a + 1 + 1 + 1) ((i + 1 : Nat) : Int)) (fun k => ?_) (evThen h1 (fun k => rfl) (evThen h2 (fun k => rfl) hr)), h0⟩
    simp only [laws_markLineS.l0, Option.bind_some, e1, e2, e3, e4, Int.toNat_natCast]
    rw [if_pos (by omega), if_pos (by omega)]
theorem markDevice_ev (s : ByteArray) (l : List S67) (hl : l.length ≤ 1048576) : ∃ r, Ev (fun k => laws_markDevice.f k s l 1) r ∧ 0 ≤ r.1 := by
  obtain ⟨r, hr, h0⟩ := markLineS_l l.length l 0 1 hl (by omega) (by omega) (by omega)
  exact ⟨(r.1, r.2), evThen (g := fun k => laws_markLineS.f k l 1) hr (f := fun _ b => some (b.1, b.2)) (fun k => by unfold laws_markDevice.f; rfl) (Ev.now _), h0⟩
/-- A line of a right device, by its number. -/
def lineOk (s : ByteArray) (l : List S67) (i : Nat) : Prop :=
  (0 ≤ (rd_T67 l i).f0 ∧ (rd_T67 l i).f0 ≤ (s.size : Int) / 64 - 1) ∧ (0 < i → (rd_T67 l ((i : Int) - 1)).f0 < (rd_T67 l i).f0) ∧ (rd_T67 l i).f1.size = 64 ∧ ((rd_T67 l i).f2.size = 64 ∨ (rd_T67 l i).f2.toList = [])
def DevOk (s : ByteArray) (l : List S67) : Prop := ((s.size : Int) % 64 = 0 ∧ 1 ≤ (s.size : Int) / 64 ∧ (s.size : Int) / 64 ≤ 128) ∧ ∀ j, j < l.length → lineOk s l j
/-- The lines from i on. -/
def okFrom (s : ByteArray) (l : List S67) (i : Nat) : Prop := ∀ j, i ≤ j → j < l.length → lineOk s l j
open Classical in
noncomputable def okFromB (s : ByteArray) (l : List S67) (i : Nat) : Bool := decide (okFrom s l i)
open Classical in
noncomputable def devOkB (s : ByteArray) (l : List S67) : Bool := decide (DevOk s l)
open Classical in
theorem okFromB_end (s : ByteArray) (l : List S67) (i : Nat) (h : l.length ≤ i) : okFromB s l i = true := by
  unfold okFromB; exact decide_eq_true (fun j h1 h2 => by omega)
open Classical in
theorem okFromB_no (s : ByteArray) (l : List S67) (i : Nat) (h : i < l.length) (hn : ¬ lineOk s l i) : okFromB s l i = false := by
  unfold okFromB; exact decide_eq_false (fun z => hn (z i (Nat.le_refl i) h))
open Classical in
theorem okFromB_yes (s : ByteArray) (l : List S67) (i : Nat) (hy : lineOk s l i) : okFromB s l i = okFromB s l (i + 1) := by
  unfold okFromB
  congr 1
  refine propext ⟨fun z j h1 h2 => z j (by omega) h2, fun z j h1 h2 => ?_⟩
  by_cases e : j = i
  · subst e; exact hy
  · exact z j (by omega) h2
open Classical in
theorem devOkB_no (s : ByteArray) (l : List S67) (h : ¬ ((s.size : Int) % 64 = 0 ∧ 1 ≤ (s.size : Int) / 64 ∧ (s.size : Int) / 64 ≤ 128)) : devOkB s l = false := by
  unfold devOkB; exact decide_eq_false (fun z => h z.1)
open Classical in
theorem devOkB_go (s : ByteArray) (l : List S67) (h : (s.size : Int) % 64 = 0) (h' : 1 ≤ (s.size : Int) / 64 ∧ (s.size : Int) / 64 ≤ 128) : devOkB s l = okFromB s l 0 := by
  unfold devOkB okFromB
  congr 1
  exact propext ⟨fun z j _ h2 => z.2 j h2, fun z => ⟨⟨h, h'⟩, fun j h2 => z j (Nat.zero_le j) h2⟩⟩
open Classical in
theorem devOkB_iff (s : ByteArray) (l : List S67) : devOkB s l = true ↔ DevOk s l := by
  unfold devOkB; exact decide_eq_true_iff
def safeL (s : ByteArray) (a : Int) : ByteArray := s.extract (64 * a).toNat (64 * a + 64).toNat
def risk (s : ByteArray) (xs : List S67) : List Int := (xs.filter (fun x => decide (¬ x.f1.toList = (safeL s x.f0).toList))).map (fun x => x.f0)
theorem rd_nat (l : List S67) (i : Nat) (h : i < l.length) : rd_T67 l (i : Int) = l[i] := by simp [rd_T67, List.getD, h]
theorem risk_step (s : ByteArray) (l : List S67) (i : Nat) (h : i < l.length) : risk s (l.drop i) = if (rd_T67 l i).f1.toList = (safeL s (rd_T67 l i).f0).toList then risk s (l.drop (i + 1)) else (rd_T67 l i).f0 :: risk s (l.drop (i + 1)) := by
  rw [rd_nat l i h, List.drop_eq_getElem_cons h]
  generalize List.drop (i + 1) l = t
  generalize l[i] = x
  unfold risk
  by_cases c : x.f1.toList = (safeL s x.f0).toList <;> simp [c]
theorem line_at {s : ByteArray} {l : List S67} (hd : DevOk s l) {i : Nat} (h : i < l.length) : 0 ≤ (rd_T67 l i).f0 ∧ 64 * (rd_T67 l i).f0 + 64 ≤ (s.size : Int) := by
  have z := (hd.2 i h).1
  have := hd.1
  omega
noncomputable def riskP (s : ByteArray) (l : List S67) : List Int := open Classical in if DevOk s l then risk s l else []
noncomputable def mT (a : Int) : ByteArray := open Classical in if h : a ≤ 1000000000 then Classical.choose (markText_ev a h) else (⟨#[]⟩ : ByteArray)
theorem mT_ev (a : Int) (h : a ≤ 1000000000) : Ev (fun k => laws_markText.f k a) (mT a) := by
  unfold mT; rw [dif_pos h]; exact Classical.choose_spec (markText_ev a h)
noncomputable def mL : Nat → Int → List S67
  | 0, _ => []
  | n + 1, a => ⟨a, mT (a + 1), mT (a + 2)⟩ :: mL n (a + 3)
theorem mL_len : ∀ n a, (mL n a).length = n
  | 0, _ => rfl
  | n + 1, a => by simp [mL, mL_len n]
theorem mL_succ : ∀ (n : Nat) (a : Int), mL (n + 1) a = mL n a ++ [⟨a + 3 * n, mT (a + 3 * n + 1), mT (a + 3 * n + 2)⟩]
  | 0, a => by simp [mL]
  | n + 1, a => by
    show (⟨a, mT (a + 1), mT (a + 2)⟩ : S67) :: mL (n + 1) (a + 3) = _
    rw [mL_succ n (a + 3)]
    have e : a + 3 + 3 * (n : Int) = a + 3 * ((n + 1 : Nat) : Int) := by omega
    rw [e]
    rfl
theorem mL_get : ∀ (n : Nat) (a : Int) (i : Nat), i < n → (mL n a)[i]? = some ⟨a + 3 * i, mT (a + 3 * i + 1), mT (a + 3 * i + 2)⟩
  | 0, _, _, h => absurd h (by omega)
  | n + 1, a, 0, _ => by simp [mL]
  | n + 1, a, i + 1, h => by
    simp only [mL, List.getElem?_cons_succ]
    rw [mL_get n (a + 3) i (by omega)]
    have e : a + 3 + 3 * (i : Int) = a + 3 * ((i + 1 : Nat) : Int) := by omega
    rw [e]
theorem rd_mid (p r : List S67) (y : S67) (i : Nat) (h : p.length = i) : rd_T67 (p ++ y :: r) (i : Int) = y := by
  subst h; simp [rd_T67, List.getD]
theorem set_mid (p r : List S67) (y z : S67) (i : Nat) (h : p.length = i) : (p ++ y :: r).set i z = p ++ z :: r := by
  subst h; rw [List.set_append_right _ _ (by omega), Nat.sub_self, List.set_cons_zero]
theorem markLs_l (l : List S67) (hl : l.length ≤ 1048576) : ∀ (n i : Nat), i + n = l.length → Ev (fun k => laws_markLineS.l0 k (mL i 1 ++ l.drop i) (1 + 3 * (i : Int)) (i : Int)) (1 + 3 * (l.length : Int), mL l.length 1) := by
  intro n
  induction n with
  | zero =>
    intro i hi
    obtain rfl : i = l.length := by omega
    refine Ev.step (f := fun _ => some _) (fun k => ?_) (Ev.now _)
    simp only [laws_markLineS.l0]
    rw [if_neg (by simp [mL_len])]
    simp
  | succ n ih =>
    intro i hi
    have h := ih (i + 1) (by omega)
    have e1 : wrap64 (1 + 3 * (i : Int) + 1) = 1 + 3 * (i : Int) + 1 := w64 (by omega) (by omega)
    have e2 : wrap64 (1 + 3 * (i : Int) + 1 + 1) = 1 + 3 * (i : Int) + 2 := by rw [w64 (by omega) (by omega)]; omega
    have e3 : wrap64 (1 + 3 * (i : Int) + 2 + 1) = 1 + 3 * ((i + 1 : Nat) : Int) := by rw [w64 (by omega) (by omega)]; omega
    have e4 : wrap64 ((i : Int) + 1) = ((i + 1 : Nat) : Int) := by rw [w64 (by omega) (by omega)]; rfl
    have c1 : (i : Int) < ((mL i 1 ++ l.drop i).length : Int) := by simp [mL_len]; omega
    refine Ev.step (f := fun k => (laws_markText.f k (1 + 3 * (i : Int) + 1)).bind fun t1 => (laws_markText.f k (1 + 3 * (i : Int) + 2)).bind fun t2 => laws_markLineS.l0 k (mL i 1 ++ (⟨1 + 3 * (i : Int), t1, t2⟩ : S67) :: l.drop (i + 1)) (1 + 3 * ((i + 1 : Nat) : Int)) ((i + 1 : Nat) : Int)) (fun k => ?_)
      (evThen (mT_ev (1 + 3 * (i : Int) + 1) (by omega)) (fun k => rfl) (evThen (mT_ev (1 + 3 * (i : Int) + 2) (by omega)) (fun k => rfl) ?_))
    · rw [laws_markLineS.l0, if_pos c1, if_pos (show (0 : Int) ≤ (i : Int) by omega)]
      rw [List.drop_eq_getElem_cons (by omega)]
      simp (implicitDefEqProofs := false) only [Option.bind_some, e1, e2, e3, e4, Int.toNat_natCast, set_mid _ _ _ _ i (mL_len i 1), rd_mid _ _ _ i (mL_len i 1)]
    · rw [mL_succ, List.append_assoc] at h
      exact h
theorem heldLs_l (m : Nat) (hm : m ≤ 1048576) : ∀ (n i : Nat), i + n = m → Ev (fun k => laws_heldLineS.l0 k (mL m 1) (1 + 3 * (i : Int)) (i : Int)) (1 + 3 * (m : Int)) := by
  intro n
  induction n with
  | zero =>
    intro i hi
    obtain rfl : i = m := by omega
    refine Ev.step (f := fun _ => some _) (fun k => ?_) (Ev.now _)
    simp only [laws_heldLineS.l0]
    rw [if_neg (by simp [mL_len])]
  | succ n ih =>
    intro i hi
    have h := ih (i + 1) (by omega)
    have e1 : wrap64 (1 + 3 * (i : Int) + 1) = 1 + 3 * (i : Int) + 1 := w64 (by omega) (by omega)
    have e2 : wrap64 (1 + 3 * (i : Int) + 1 + 1) = 1 + 3 * (i : Int) + 2 := by rw [w64 (by omega) (by omega)]; omega
    have e3 : wrap64 (1 + 3 * (i : Int) + 2 + 1) = 1 + 3 * ((i + 1 : Nat) : Int) := by rw [w64 (by omega) (by omega)]; omega
    have e4 : wrap64 ((i : Int) + 1) = ((i + 1 : Nat) : Int) := by rw [w64 (by omega) (by omega)]; rfl
    have er : rd_T67 (mL m 1) (i : Int) = ⟨1 + 3 * (i : Int), mT (1 + 3 * (i : Int) + 1), mT (1 + 3 * (i : Int) + 2)⟩ := by simp [rd_T67, List.getD, mL_get m 1 i (by omega)]
    refine Ev.step (f := fun k => (laws_markText.f k (1 + 3 * (i : Int) + 1)).bind fun t1 => if (mT (1 + 3 * (i : Int) + 1)).toList = t1.toList then (laws_markText.f k (1 + 3 * (i : Int) + 2)).bind fun t2 => if (mT (1 + 3 * (i : Int) + 2)).toList = t2.toList then laws_heldLineS.l0 k (mL m 1) (1 + 3 * ((i + 1 : Nat) : Int)) ((i + 1 : Nat) : Int) else some (-1) else some (-1)) (fun k => ?_)
      (evThen (mT_ev (1 + 3 * (i : Int) + 1) (by omega)) (fun k => rfl) ?_)
    · rw [laws_heldLineS.l0, if_pos (by rw [mL_len]; omega), if_pos (show (0 : Int) ≤ (i : Int) by omega)]
      simp (implicitDefEqProofs := false) only [e1, e2, e3, e4, er, if_true]
    · simp only [if_true]
      refine evThen (mT_ev (1 + 3 * (i : Int) + 2) (by omega)) (fun k => rfl) ?_
      simp only [if_true]
      exact h
theorem markHeld_ev (s : ByteArray) (l : List S67) (hl : l.length ≤ 1048576) : Ev (fun k => laws_markDevice.f k s l 1) (1 + 3 * (l.length : Int), mL l.length 1) ∧ ∀ s', Ev (fun k => laws_heldDevice.f k s' (mL l.length 1) 1) (1 + 3 * (l.length : Int)) := by
  constructor
  · have h := markLs_l l hl l.length 0 (by omega)
    refine evThen (g := fun k => laws_markLineS.f k l 1) (a := (1 + 3 * (l.length : Int), mL l.length 1)) ?_ (f := fun _ b => some (b.1, b.2)) (fun k => by unfold laws_markDevice.f; rfl) (Ev.now _)
    simpa [laws_markLineS.f, mL] using h
  · intro s'
    have h := heldLs_l l.length hl l.length 0 (by omega)
    refine evThen (g := fun k => laws_heldLineS.f k (mL l.length 1) 1) (a := 1 + 3 * (l.length : Int)) ?_ (f := fun _ t => if t < 0 then some (-1) else some t) (fun k => by unfold laws_heldDevice.f; rfl) ?_
    · simpa [laws_heldLineS.f] using h
    · rw [if_neg (by omega)]; exact Ev.now _
theorem sIn (a b c : Int) : spec_l1In.f a b c = some (decide (b ≤ a ∧ a ≤ c)) := by
  unfold spec_l1In.f
  by_cases h : a ≥ b
  · rw [if_pos h]; congr 1; rw [decide_eq_decide]; omega
  · rw [if_neg h]; congr 1; symm; rw [decide_eq_false_iff_not]; omega
theorem sDOl (s : ByteArray) (l : List S67) (hs : s.size ≤ 1048576) (hl : l.length ≤ 1048576) : ∀ (n i : Nat), i + n = l.length → Ev (fun k => spec_DeviceOk.l0 k (i : Int) s l) (okFromB s l i) := by
  intro n
  induction n with
  | zero =>
    intro i hi
    rw [okFromB_end s l i (by omega)]
    exact Ev.step (f := fun _ => some true) (fun k => by simp only [spec_DeviceOk.l0]; rw [if_neg (by omega)]) (Ev.now _)
  | succ n ih =>
    intro i hi
    have h := ih (i + 1) (by omega)
    have e1 : wrap64 ((s.size : Int) / 64) = (s.size : Int) / 64 := w64 (by omega) (by omega)
    have e2 : wrap64 ((s.size : Int) / 64 - 1) = (s.size : Int) / 64 - 1 := w64 (by omega) (by omega)
    have e3 : wrap64 ((i : Int) + 1) = ((i + 1 : Nat) : Int) := by rw [w64 (by omega) (by omega)]; rfl
    have e4 : wrap64 ((i : Int) - 1) = (i : Int) - 1 := w64 (by omega) (by omega)
    have no : ¬ lineOk s l i → (∀ k, spec_DeviceOk.l0 (k + 1) (i : Int) s l = some false) → Ev (fun k => spec_DeviceOk.l0 k (i : Int) s l) (okFromB s l i) := by
      intro hn hk
      rw [okFromB_no s l i (by omega) hn]
      exact Ev.step (f := fun _ => some false) hk (Ev.now _)
    have yes : lineOk s l i → (∀ k, spec_DeviceOk.l0 (k + 1) (i : Int) s l = spec_DeviceOk.l0 k ((i + 1 : Nat) : Int) s l) → Ev (fun k => spec_DeviceOk.l0 k (i : Int) s l) (okFromB s l i) := by
      intro hy hk
      rw [okFromB_yes s l i hy]
      exact Ev.step (f := fun k => spec_DeviceOk.l0 k ((i + 1 : Nat) : Int) s l) hk h
    have base : ∀ k, spec_DeviceOk.l0 (k + 1) (i : Int) s l = _ := fun k => by
      simp (implicitDefEqProofs := false) only [spec_DeviceOk.l0, spec_l2Count.f, sIn, Option.bind_some, e1, e2, e3, e4, if_pos (show (i : Int) < (l.length : Int) by omega), if_pos (show (0 : Int) ≤ (i : Int) by omega)]
      rfl
    by_cases c1 : 0 ≤ (rd_T67 l i).f0 ∧ (rd_T67 l i).f0 ≤ (s.size : Int) / 64 - 1
    · have c1' : decide (0 ≤ (rd_T67 l i).f0 ∧ (rd_T67 l i).f0 ≤ (s.size : Int) / 64 - 1) = true := decide_eq_true c1
      have tail : ∀ (hb : 0 < i → (rd_T67 l ((i : Int) - 1)).f0 < (rd_T67 l i).f0) (hk : ∀ k, spec_DeviceOk.l0 (k + 1) (i : Int) s l = (if (((rd_T67 l i).f1).size : Int) = 64 then (if (((rd_T67 l i).f2).size : Int) = 64 then (spec_DeviceOk.l0 k ((i + 1 : Nat) : Int) s l) else (if ((rd_T67 l i).f2).toList = ([] : List UInt8) then (spec_DeviceOk.l0 k ((i + 1 : Nat) : Int) s l) else (some false))) else (some false))), Ev (fun k => spec_DeviceOk.l0 k (i : Int) s l) (okFromB s l i) := by
        intro hb hk
        by_cases c3 : (((rd_T67 l i).f1).size : Int) = 64
        · by_cases c4 : (((rd_T67 l i).f2).size : Int) = 64
          · exact yes ⟨c1, hb, by omega, .inl (by omega)⟩ (fun k => by rw [hk, if_pos c3, if_pos c4])
          · by_cases c5 : ((rd_T67 l i).f2).toList = ([] : List UInt8)
            · exact yes ⟨c1, hb, by omega, .inr c5⟩ (fun k => by rw [hk, if_pos c3, if_neg c4, if_pos c5])
            · exact no (fun z => by rcases z.2.2.2 with z | z; exact c4 (by omega); exact c5 z) (fun k => by rw [hk, if_pos c3, if_neg c4, if_neg c5])
        · exact no (fun z => c3 (by have := z.2.2.1; omega)) (fun k => by rw [hk, if_neg c3])
      by_cases c2 : (i : Int) > 0
      · by_cases c6 : (rd_T67 l i).f0 ≤ (rd_T67 l ((i : Int) - 1)).f0
        · exact no (fun z => by have := z.2.1 (by omega); omega) (fun k => by rw [base, c1', if_pos rfl, if_pos c2, if_pos (by omega), if_pos (by omega), if_pos c6])
        · exact tail (fun _ => by omega) (fun k => by rw [base, c1', if_pos rfl, if_pos c2, if_pos (by omega), if_pos (by omega), if_neg c6])
      · exact tail (fun z => by omega) (fun k => by rw [base, c1', if_pos rfl, if_neg c2])
    · have c1' : decide (0 ≤ (rd_T67 l i).f0 ∧ (rd_T67 l i).f0 ≤ (s.size : Int) / 64 - 1) = false := decide_eq_false c1
      exact no (fun z => c1 z.1) (fun k => by rw [base, c1', if_neg (by decide)])
theorem sDO (s : ByteArray) (l : List S67) (hs : s.size ≤ 1048576) (hl : l.length ≤ 1048576) : Ev (fun k => spec_DeviceOk.f k s l) (devOkB s l) := by
  have h := sDOl s l hs hl l.length 0 (by omega)
  have e1 : wrap64 ((s.size : Int) / 64) = (s.size : Int) / 64 := w64 (by omega) (by omega)
  have jt : Ev (fun k => spec_DeviceOk.j0 k true s l) false := Ev.step (f := fun _ => some false) (fun k => by simp only [spec_DeviceOk.j0, if_true]) (Ev.now _)
  have jf : Ev (fun k => spec_DeviceOk.j0 k false s l) (okFromB s l 0) := Ev.step (f := fun k => spec_DeviceOk.l0 k ((0 : Nat) : Int) s l) (fun k => by simp only [spec_DeviceOk.j0]; rw [if_neg (by decide)]; rfl) h
  unfold spec_DeviceOk.f
  by_cases c : (s.size : Int) % 64 = 0
  · simp only [if_pos c, spec_l2Count.f, sIn, Option.bind_some, e1]
    by_cases d : 1 ≤ (s.size : Int) / 64 ∧ (s.size : Int) / 64 ≤ 128
    · rw [devOkB_go s l c d]; simpa [d] using jf
    · rw [devOkB_no s l (fun z => d z.2)]; simpa [d] using jt
  · simp only [if_neg c]
    rw [devOkB_no s l (fun z => c z.1)]; exact jt
/-- a text with some bytes replaced from a place on -/
def withP (s : ByteArray) (a : Nat) (d : ByteArray) : ByteArray := (s.extract 0 a ++ d) ++ s.extract (a + d.size) s.size
theorem withP_size (s : ByteArray) (a : Nat) (d : ByteArray) (h : a + d.size ≤ s.size) : (withP s a d).size = s.size := by
  unfold withP; rw [ByteArray.size_append, ByteArray.size_append, ByteArray.size_extract, ByteArray.size_extract]; omega
theorem sWith (s : ByteArray) (a : Nat) (d : ByteArray) (h : a + d.size ≤ s.size) (hs : s.size ≤ 4611686018427387904) : spec_l2With.f s a d = some (withP s a d) := by
  unfold spec_l2With.f withP
  have e1 : wrap64 ((a : Int) + (d.size : Int)) = ((a + d.size : Nat) : Int) := by rw [w64 (by omega) (by omega)]; omega
  rw [if_pos (by omega), if_pos (by omega), if_pos (by rw [ByteArray.size_extract]; omega), e1, if_pos (by omega), if_pos (by omega), if_pos (by rw [ByteArray.size_append, ByteArray.size_extract, ByteArray.size_extract]; omega)]
  simp only [Int.toNat_natCast]
theorem iIn (a b c : Int) : impl_within.f a b c = some (decide (b ≤ a ∧ a ≤ c)) := by
  unfold impl_within.f
  by_cases h : a ≥ b
  · rw [if_pos h]; congr 1; rw [decide_eq_decide]; omega
  · rw [if_neg h]; congr 1; symm; rw [decide_eq_false_iff_not]; omega
theorem iDOl (s : ByteArray) (l : List S67) (hs : s.size ≤ 1048576) (hl : l.length ≤ 1048576) : ∀ (n i : Nat), i + n = l.length → Ev (fun k => impl_DeviceOk.l0 k l (l.length : Int) (i : Int) s l) (okFromB s l i) := by
  intro n
  induction n with
  | zero =>
    intro i hi
    rw [okFromB_end s l i (by omega)]
    exact Ev.step (f := fun _ => some true) (fun k => by simp only [impl_DeviceOk.l0]; rw [if_neg (by omega)]) (Ev.now _)
  | succ n ih =>
    intro i hi
    have h := ih (i + 1) (by omega)
    have e1 : wrap64 ((s.size : Int) / 64) = (s.size : Int) / 64 := w64 (by omega) (by omega)
    have e2 : wrap64 ((s.size : Int) / 64 - 1) = (s.size : Int) / 64 - 1 := w64 (by omega) (by omega)
    have e3 : wrap64 ((i : Int) + 1) = ((i + 1 : Nat) : Int) := by rw [w64 (by omega) (by omega)]; rfl
    have e4 : wrap64 ((i : Int) - 1) = (i : Int) - 1 := w64 (by omega) (by omega)
    have no : ¬ lineOk s l i → (∀ k, impl_DeviceOk.l0 (k + 1) l (l.length : Int) (i : Int) s l = some false) → Ev (fun k => impl_DeviceOk.l0 k l (l.length : Int) (i : Int) s l) (okFromB s l i) := by
      intro hn hk
      rw [okFromB_no s l i (by omega) hn]
      exact Ev.step (f := fun _ => some false) hk (Ev.now _)
    have yes : lineOk s l i → (∀ k, impl_DeviceOk.l0 (k + 1) l (l.length : Int) (i : Int) s l = impl_DeviceOk.l0 k l (l.length : Int) ((i + 1 : Nat) : Int) s l) → Ev (fun k => impl_DeviceOk.l0 k l (l.length : Int) (i : Int) s l) (okFromB s l i) := by
      intro hy hk
      rw [okFromB_yes s l i hy]
      exact Ev.step (f := fun k => impl_DeviceOk.l0 k l (l.length : Int) ((i + 1 : Nat) : Int) s l) hk h
    have base : ∀ k, impl_DeviceOk.l0 (k + 1) l (l.length : Int) (i : Int) s l = _ := fun k => by
      simp (implicitDefEqProofs := false) only [impl_DeviceOk.l0, impl_Device_has.f, iIn, Option.bind_some, e1, e2, e3, e4, if_pos (show (i : Int) < (l.length : Int) by omega), if_pos (show (0 : Int) ≤ (i : Int) by omega)]
      rfl
    by_cases c1 : 0 ≤ (rd_T67 l i).f0 ∧ (rd_T67 l i).f0 ≤ (s.size : Int) / 64 - 1
    · have c1' : decide (0 ≤ (rd_T67 l i).f0 ∧ (rd_T67 l i).f0 ≤ (s.size : Int) / 64 - 1) = true := decide_eq_true c1
      have tail : ∀ (hb : 0 < i → (rd_T67 l ((i : Int) - 1)).f0 < (rd_T67 l i).f0) (hk : ∀ k, impl_DeviceOk.l0 (k + 1) l (l.length : Int) (i : Int) s l = (if (((rd_T67 l i).f1).size : Int) = 64 then (if (((rd_T67 l i).f2).size : Int) = 64 then (impl_DeviceOk.l0 k l (l.length : Int) ((i + 1 : Nat) : Int) s l) else (if ((rd_T67 l i).f2).toList = ([] : List UInt8) then (impl_DeviceOk.l0 k l (l.length : Int) ((i + 1 : Nat) : Int) s l) else (some false))) else (some false))), Ev (fun k => impl_DeviceOk.l0 k l (l.length : Int) (i : Int) s l) (okFromB s l i) := by
        intro hb hk
        by_cases c3 : (((rd_T67 l i).f1).size : Int) = 64
        · by_cases c4 : (((rd_T67 l i).f2).size : Int) = 64
          · exact yes ⟨c1, hb, by omega, .inl (by omega)⟩ (fun k => by rw [hk, if_pos c3, if_pos c4])
          · by_cases c5 : ((rd_T67 l i).f2).toList = ([] : List UInt8)
            · exact yes ⟨c1, hb, by omega, .inr c5⟩ (fun k => by rw [hk, if_pos c3, if_neg c4, if_pos c5])
            · exact no (fun z => by rcases z.2.2.2 with z | z; exact c4 (by omega); exact c5 z) (fun k => by rw [hk, if_pos c3, if_neg c4, if_neg c5])
        · exact no (fun z => c3 (by have := z.2.2.1; omega)) (fun k => by rw [hk, if_neg c3])
      by_cases c2 : (i : Int) > 0
      · by_cases c6 : (rd_T67 l i).f0 ≤ (rd_T67 l ((i : Int) - 1)).f0
        · exact no (fun z => by have := z.2.1 (by omega); omega) (fun k => by rw [base, c1', if_pos rfl, if_pos c2, if_pos (by omega), if_pos (by omega), if_pos c6])
        · exact tail (fun _ => by omega) (fun k => by rw [base, c1', if_pos rfl, if_pos c2, if_pos (by omega), if_pos (by omega), if_neg c6])
      · exact tail (fun z => by omega) (fun k => by rw [base, c1', if_pos rfl, if_neg c2])
    · have c1' : decide (0 ≤ (rd_T67 l i).f0 ∧ (rd_T67 l i).f0 ≤ (s.size : Int) / 64 - 1) = false := decide_eq_false c1
      exact no (fun z => c1 z.1) (fun k => by rw [base, c1', if_neg (by decide)])
theorem iDO (s : ByteArray) (l : List S67) (hs : s.size ≤ 1048576) (hl : l.length ≤ 1048576) : Ev (fun k => impl_DeviceOk.f k s l) (devOkB s l) := by
  have h := iDOl s l hs hl l.length 0 (by omega)
  have e1 : wrap64 ((s.size : Int) / 64) = (s.size : Int) / 64 := w64 (by omega) (by omega)
  have jt : Ev (fun k => impl_DeviceOk.j0 k true s l) false := Ev.step (f := fun _ => some false) (fun k => by simp only [impl_DeviceOk.j0, if_true]) (Ev.now _)
  have jf : Ev (fun k => impl_DeviceOk.j0 k false s l) (okFromB s l 0) := Ev.step (f := fun k => impl_DeviceOk.l0 k l (l.length : Int) ((0 : Nat) : Int) s l) (fun k => by simp only [impl_DeviceOk.j0]; rw [if_neg (by decide)]; rfl) h
  unfold impl_DeviceOk.f
  by_cases c : (s.size : Int) % 64 = 0
  · simp only [if_pos c, iIn, Option.bind_some, e1]
    by_cases d : 1 ≤ (s.size : Int) / 64 ∧ (s.size : Int) / 64 ≤ 128
    · rw [devOkB_go s l c d]; simpa [d] using jf
    · rw [devOkB_no s l (fun z => d z.2)]; simpa [d] using jt
  · simp only [if_neg c]
    rw [devOkB_no s l (fun z => c z.1)]; exact jt
/-- Some bytes replaced. -/
theorem repl_eq (s d : ByteArray) (n : Nat) (h : 64 * n + d.size ≤ s.size) (hs : s.size ≤ 1048576) : impl_replaced.f s (64 * (n : Int)) d = some ⟨(s.data.toList.take (64 * n) ++ d.data.toList ++ s.data.toList.drop (64 * n + d.data.toList.length)).toArray⟩ := by
  have e1 : wrap64 (64 * (n : Int) + (d.size : Int)) = 64 * (n : Int) + (d.size : Int) := w64 (by omega) (by omega)
  have hd : d.data.toList.length = d.size := by simp
  have t1 : (64 * (n : Int)).toNat = 64 * n := by omega
  have t2 : (64 * (n : Int) + (d.size : Int)).toNat = 64 * n + d.size := by omega
  have z1 : (s.extract 0 (64 * n)).size = 64 * n := by rw [ByteArray.size_extract]; omega
  have z2 : (s.extract (64 * n + d.size) s.size).size = s.size - (64 * n + d.size) := by rw [ByteArray.size_extract]; omega
  unfold impl_replaced.f
  rw [e1, t1, t2, if_pos (by omega), if_pos (by omega), if_pos (by rw [z1]; omega), if_pos (by omega), if_pos (by omega), if_pos (by rw [ByteArray.size_append, z1, z2]; omega)]
  congr 1
  apply ByteArray.ext
  rw [hd]
  simp [ByteArray.data_append, ByteArray.data_extract]
  rw [List.take_of_length_le (by simp)]
/-- The i-th 64 bytes. -/
def blk (b : List UInt8) (i : Nat) : List UInt8 := (b.drop (64 * i)).take 64
theorem blk_length (b : List UInt8) (i : Nat) (h : 64 * i + 64 ≤ b.length) : (blk b i).length = 64 := by simp [blk]; omega
theorem blk_lay (b d : List UInt8) (a i : Nat) (hd : d.length = 64) (ha : 64 * a + 64 ≤ b.length) (hi : 64 * i + 64 ≤ b.length) :
    blk (b.take (64 * a) ++ d ++ b.drop (64 * a + d.length)) i = if i = a then d else blk b i := by
  rw [hd]
  apply List.ext_getElem?
  intro j
  unfold blk
  rw [List.getElem?_take, List.getElem?_drop]
  by_cases hj : j < 64
  · rw [if_pos hj, List.append_assoc, List.getElem?_append, List.getElem?_append, List.length_take, hd, show min (64 * a) b.length = 64 * a by omega]
    by_cases e : i = a
    · subst e
      rw [if_pos rfl, if_neg (by omega), if_pos (by omega)]
      congr 1; omega
    · rw [if_neg e, show ((b.drop (64 * i)).take 64)[j]? = b[64 * i + j]? from by rw [List.getElem?_take, if_pos hj, List.getElem?_drop]]
      by_cases e2 : 64 * i + j < 64 * a
      · rw [if_pos e2, List.getElem?_take, if_pos e2]
      · rw [if_neg e2, if_neg (by omega), List.getElem?_drop]
        congr 1; omega
  · rw [if_neg hj]
    by_cases e : i = a
    · rw [if_pos e, List.getElem?_eq_none (by omega)]
    · rw [if_neg e, List.getElem?_take, if_neg hj]
theorem join_blk (b : List UInt8) : ∀ n : Nat, (List.range n).flatMap (blk b) = b.take (64 * n)
  | 0 => by simp
  | n + 1 => by
    rw [List.range_succ, List.flatMap_append, join_blk b n, show 64 * (n + 1) = 64 * n + 64 by omega, List.take_add]
    simp [blk]
/-- What is seen of line i. -/
def seenB (s : List UInt8) (l : List S67) (i : Nat) : List UInt8 := l.foldl (fun acc x => if x.f0 = (i : Int) then x.f1.data.toList else acc) (blk s i)
def srt (l : List S67) : Prop := l.Pairwise (fun x y => x.f0 < y.f0)
theorem foldl_no (l : List S67) (i : Int) (h : ∀ x ∈ l, x.f0 ≠ i) : ∀ a : List UInt8, l.foldl (fun acc x => if x.f0 = i then x.f1.data.toList else acc) a = a := by
  induction l with
  | nil => intro a; rfl
  | cons x l ih =>
    intro a
    rw [List.foldl_cons, if_neg (h x (by simp))]
    exact ih (fun y hy => h y (by simp [hy])) a
theorem foldl_find (i : Int) : ∀ (l : List S67), srt l → ∀ a : List UInt8, l.foldl (fun acc x => if x.f0 = i then x.f1.data.toList else acc) a =
    if (l[l.countP (fun x => decide (x.f0 < i))]?).any (fun x => decide (x.f0 = i)) = true then (l.getD (l.countP (fun x => decide (x.f0 < i))) z67).f1.data.toList else a
  | [], _, a => by simp
  | x :: l, h, a => by
    have hx := (List.pairwise_cons.1 h).1
    have hl := (List.pairwise_cons.1 h).2
    rw [List.foldl_cons]
    by_cases c : x.f0 < i
    · rw [if_neg (by omega), foldl_find i l hl a, List.countP_cons_of_pos (by simpa using c)]
      simp
    · have z : (x :: l).countP (fun x => decide (x.f0 < i)) = 0 := by
        rw [List.countP_eq_zero]
        intro y hy
        rcases List.mem_cons.1 hy with rfl | hy
        · simpa using c
        · have := hx y hy; simp; omega
      rw [z, foldl_no l i (fun y hy => by have := hx y hy; omega)]
      by_cases e : x.f0 = i <;> simp [e]
theorem srt_of {s : ByteArray} {l : List S67} (hd : DevOk s l) : srt l := by
  have h1 : ∀ i, i + 1 < l.length → (rd_T67 l (i : Int)).f0 < (rd_T67 l ((i + 1 : Nat) : Int)).f0 := by
    intro i hi
    have := (hd.2 (i + 1) hi).2.1 (by omega)
    rwa [show (((i + 1 : Nat) : Int) - 1) = (i : Int) by omega] at this
  have h2 : ∀ (d i : Nat), i + (d + 1) < l.length → (rd_T67 l (i : Int)).f0 < (rd_T67 l ((i + (d + 1) : Nat) : Int)).f0 := by
    intro d
    induction d with
    | zero => intro i hi; exact h1 i hi
    | succ d ih =>
      intro i hi
      have a := ih i (by omega)
      have b := h1 (i + (d + 1)) (by omega)
      rw [show i + (d + 1 + 1) = i + (d + 1) + 1 by omega]
      omega
  unfold srt
  rw [List.pairwise_iff_getElem]
  intro i j hi hj hij
  have := h2 (j - i - 1) i (by omega)
  rw [show i + (j - i - 1 + 1) = j by omega, rd_nat l i hi, rd_nat l j hj] at this
  exact this
/-- All lines laid over the safe contents. -/
def layAll (b : List UInt8) (l : List S67) : List UInt8 := l.foldl (fun b x => b.take (64 * x.f0).toNat ++ x.f1.data.toList ++ b.drop ((64 * x.f0).toNat + x.f1.data.toList.length)) b
theorem layAll_blk : ∀ (l : List S67) (b : List UInt8), (∀ x ∈ l, 0 ≤ x.f0 ∧ 64 * x.f0 + 64 ≤ (b.length : Int) ∧ x.f1.size = 64) → (layAll b l).length = b.length ∧ ∀ i, 64 * i + 64 ≤ b.length → blk (layAll b l) i = seenB b l i
  | [], b, _ => ⟨rfl, fun i _ => rfl⟩
  | x :: l, b, h => by
    obtain ⟨h1, h2, h3⟩ := h x (by simp)
    obtain ⟨n, hn⟩ := Int.eq_ofNat_of_zero_le h1
    have h3' : x.f1.data.toList.length = 64 := by rw [← h3]; simp
    have e : (64 * x.f0).toNat = 64 * n := by omega
    have hlen : (b.take (64 * x.f0).toNat ++ x.f1.data.toList ++ b.drop ((64 * x.f0).toNat + x.f1.data.toList.length)).length = b.length := by
      simp only [List.length_append, List.length_take, List.length_drop, h3']; omega
    obtain ⟨a1, a2⟩ := layAll_blk l (b.take (64 * x.f0).toNat ++ x.f1.data.toList ++ b.drop ((64 * x.f0).toNat + x.f1.data.toList.length)) (fun y hy => by rw [hlen]; exact h y (by simp [hy]))
    refine ⟨a1.trans hlen, fun i hi => ?_⟩
    have := a2 i (by rw [hlen]; exact hi)
    rw [show layAll b (x :: l) = layAll (b.take (64 * x.f0).toNat ++ x.f1.data.toList ++ b.drop ((64 * x.f0).toNat + x.f1.data.toList.length)) l from rfl, this]
    unfold seenB
    rw [List.foldl_cons, e, blk_lay b x.f1.data.toList n i h3' (by omega) hi, hn]
    by_cases c : i = n
    · rw [if_pos c, if_pos (by rw [c])]
    · rw [if_neg c, if_neg (by omega)]
def seenL (s : List UInt8) (l : List S67) : List UInt8 := (List.range (s.length / 64)).flatMap (seenB s l)
theorem layAll_seen (l : List S67) (b : List UInt8) (hb : b.length % 64 = 0) (h : ∀ x ∈ l, 0 ≤ x.f0 ∧ 64 * x.f0 + 64 ≤ (b.length : Int) ∧ x.f1.size = 64) : layAll b l = seenL b l := by
  obtain ⟨h1, h2⟩ := layAll_blk l b h
  have e := join_blk (layAll b l) (b.length / 64)
  rw [List.take_of_length_le (by rw [h1]; omega)] at e
  rw [← e]
  unfold seenL
  rw [List.flatMap_def, List.flatMap_def]
  congr 1
  apply List.map_congr_left
  intro i hi
  exact h2 i (by have := List.mem_range.1 hi; omega)
def layd (b : List UInt8) (n : Nat) (t : List UInt8) : List UInt8 := b.take (64 * n) ++ t ++ b.drop (64 * n + t.length)
theorem layd_len (b : List UInt8) (n : Nat) (t : List UInt8) (h : 64 * n + t.length ≤ b.length) : (layd b n t).length = b.length := by simp [layd]; omega
theorem layd_nil (b : List UInt8) (n : Nat) : layd b n [] = b := by simp [layd]
/-- What a right device says of each of its lines. -/
def okL (m : Nat) (x : S67) : Prop := 0 ≤ x.f0 ∧ 64 * x.f0 + 64 ≤ (m : Int) ∧ x.f1.size = 64 ∧ (x.f2.size = 64 ∨ x.f2.size = 0)
theorem okL_of {s : ByteArray} {l : List S67} (hd : DevOk s l) : ∀ x ∈ l, okL s.size x := by
  intro x hx
  obtain ⟨i, hi, rfl⟩ := List.getElem_of_mem hx
  have h := hd.2 i hi
  have h1 := hd.1
  unfold lineOk at h
  rw [rd_nat l i hi] at h
  obtain ⟨⟨a, b⟩, _, c, d⟩ := h
  refine ⟨a, by omega, c, ?_⟩
  rcases d with d | d
  · exact .inl d
  · refine .inr ?_
    rw [ByteArray.toList_eq] at d
    have : l[i].f2.data.toList.length = 0 := by rw [d]; rfl
    simpa using this
theorem dlen (d : ByteArray) : d.data.toList.length = d.size := by simp
theorem hasE (s : ByteArray) (l : List S67) (x : Int) (hs : s.size ≤ 1048576) : impl_Device_has.f s l x = some (decide (0 ≤ x ∧ x ≤ (s.size : Int) / 64 - 1)) := by
  unfold impl_Device_has.f
  rw [iIn, Option.bind_some, w64 (n := (s.size : Int) / 64) (by omega) (by omega), w64 (n := (s.size : Int) / 64 - 1) (by omega) (by omega)]
theorem rd_mid2 (p r : List S67) (y : S67) (i : Nat) (h : p.length = i) : rd_T67 (p ++ y :: r) (i : Int) = y := by
  subst h; simp [rd_T67, List.getD]
theorem set_mid2 (p r : List S67) (y z : S67) (i : Nat) (h : p.length = i) : (p ++ y :: r).set i z = p ++ z :: r := by
  subst h; rw [List.set_append_right _ _ (by omega), Nat.sub_self, List.set_cons_zero]
theorem withE (s : ByteArray) (a : Int) (d : ByteArray) : spec_l2With.f s a d = impl_replaced.f s a d := rfl
def evictL (y : Int) : List S67 → List UInt8 → List S67 → List UInt8 × List S67
  | [], b, acc => (b, acc)
  | x :: xs, b, acc => if x.f0 = y then evictL y xs (layd b y.toNat x.f1.data.toList) acc else evictL y xs b (acc ++ [x])
theorem evict_no (y : Int) : ∀ (l : List S67) (b : List UInt8) (acc : List S67), (∀ x ∈ l, x.f0 ≠ y) → evictL y l b acc = (b, acc ++ l)
  | [], b, acc, _ => by simp [evictL]
  | x :: xs, b, acc, h => by
    unfold evictL
    rw [if_neg (h x (by simp)), evict_no y xs b _ (fun z hz => h z (by simp [hz]))]
    simp
theorem evict_cons (y : Int) (x : S67) (xs : List S67) (b : List UInt8) (acc : List S67) : evictL y (x :: xs) b acc = if x.f0 = y then evictL y xs (layd b y.toNat x.f1.data.toList) acc else evictL y xs b (acc ++ [x]) := rfl
theorem evict_app (y : Int) : ∀ (p r : List S67) (b : List UInt8) (acc : List S67), evictL y (p ++ r) b acc = evictL y r (evictL y p b acc).1 (evictL y p b acc).2
  | [], r, b, acc => rfl
  | x :: p, r, b, acc => by
    rw [List.cons_append, evict_cons, evict_cons]
    by_cases c : x.f0 = y
    · rw [if_pos c, if_pos c]; exact evict_app y p r _ _
    · rw [if_neg c, if_neg c]; exact evict_app y p r _ _
theorem evict_one (y : Int) (p r : List S67) (x : S67) (b : List UInt8) (hp : ∀ z ∈ p, z.f0 ≠ y) (hr : ∀ z ∈ r, z.f0 ≠ y) (hx : x.f0 = y) : evictL y (p ++ x :: r) b [] = (layd b y.toNat x.f1.data.toList, p ++ r) := by
  rw [evict_app, evict_no y p b [] hp, evict_cons]
  rw [if_pos hx, evict_no y r _ _ hr]
  simp
theorem idx_at2 (l : List S67) (h : srt l) (y : Int) (j : Nat) (hj : j < l.length) (e : l[j].f0 = y) : impl_Device_find.idx l y = j := by
  have hp := List.pairwise_iff_getElem.1 h
  refine impl_Device_find.idx_eq l y j (by omega) (fun t ht => ?_) (fun t h1 h2 => ?_)
  · rw [rd_nat l t (by omega)]; have := hp t j (by omega) hj ht; omega
  · rw [rd_nat l t h2]
    rcases Nat.lt_or_ge j t with h3 | h3
    · have := hp j t hj h2 h3; omega
    · obtain rfl : t = j := by omega
      omega
noncomputable def evictP (s : ByteArray) (l : List S67) (y : Int) : ByteArray × List S67 × Bool := open Classical in if DevOk s l ∧ 0 ≤ y ∧ y ≤ (s.size : Int) / 64 - 1 then (⟨(evictL y l s.data.toList []).1.toArray⟩, (evictL y l s.data.toList []).2, true) else ((⟨#[]⟩ : ByteArray), [], false)
theorem evictL_len (y : Int) : ∀ (l : List S67) (b : List UInt8) (acc : List S67), (evictL y l b acc).2.length ≤ acc.length + l.length
  | [], b, acc => Nat.le_refl _
  | x :: xs, b, acc => by
    unfold evictL
    split
    · refine Nat.le_trans (evictL_len y xs _ _) ?_; rw [List.length_cons]; omega
    · refine Nat.le_trans (evictL_len y xs _ _) ?_; rw [List.length_append, List.length_cons, List.length_cons, List.length_nil]; omega
theorem evictP_len (s : ByteArray) (l : List S67) (y : Int) : (evictP s l y).2.1.length ≤ l.length := by
  unfold evictP
  split
  · have := evictL_len y l s.data.toList []; simpa using this
  · simp
theorem sEv_l (l : List S67) (y : Int) (s0 : ByteArray) (m : Nat) (hm : m ≤ 1048576) (hl : l.length ≤ 1048576) (hy : 0 ≤ y ∧ 64 * y + 64 ≤ (m : Int)) (ho : ∀ x ∈ l, okL m x) : ∀ (n i : Nat) (b : ByteArray) (acc : List S67), i + n = l.length → b.size = m → acc.length ≤ i → Ev (fun k => spec_l2Evict.l0 k y (i : Int) s0 l b acc) (⟨(evictL y (l.drop i) b.data.toList acc).1.toArray⟩, (evictL y (l.drop i) b.data.toList acc).2) := by
  intro n
  induction n with
  | zero =>
    intro i b acc hi hb ha
    rw [List.drop_of_length_le (by omega)]
    refine Ev.step (f := fun _ => some (b, acc)) (fun k => by simp only [spec_l2Evict.l0]; rw [if_neg (by omega)]) ?_
    unfold evictL
    exact Ev.now _
  | succ n ih =>
    intro i b acc hi hb ha
    have hi' : i < l.length := by omega
    have q1 : (i : Int) < (l.length : Int) := Int.ofNat_lt.2 hi'
    have q2 : 0 ≤ (i : Int) := Int.natCast_nonneg i
    have q3 : acc.length < 3518437208883 := Nat.lt_of_le_of_lt (Nat.le_trans ha (Nat.le_of_lt (Nat.lt_of_lt_of_le hi' hl))) (by decide)
    have q4 : acc.length ≤ i + 1 := Nat.le_succ_of_le ha
    have q5 : (i + 1) + n = l.length := by omega
    have q6 : ∀ x : S67, (acc ++ [x]).length ≤ i + 1 := fun x => by rw [List.length_append]; exact Nat.succ_le_succ ha
    obtain ⟨h1, h2, h3, h4⟩ := ho l[i] (by simp)
    obtain ⟨q, hq⟩ := Int.eq_ofNat_of_zero_le hy.1
    have e4 : wrap64 ((i : Int) + 1) = ((i + 1 : Nat) : Int) := by rw [w64 (by omega) (by omega)]; rfl
    have dl : l.drop i = l[i] :: l.drop (i + 1) := List.drop_eq_getElem_cons hi'
    have r := rd_nat l i hi'
    rw [dl]
    rw [evict_cons]
    by_cases c : l[i].f0 = y
    · rw [if_pos c]
      have z1 : (⟨(layd b.data.toList y.toNat l[i].f1.data.toList).toArray⟩ : ByteArray).size = m := by
        have := layd_len b.data.toList y.toNat l[i].f1.data.toList (by rw [dlen, dlen]; omega)
        rw [dlen, hb] at this; exact List.size_toArray.trans this
      refine Ev.step (f := fun k => spec_l2Evict.l0 k y ((i + 1 : Nat) : Int) s0 l ⟨(layd b.data.toList y.toNat l[i].f1.data.toList).toArray⟩ acc) (fun k => ?_) (ih (i + 1) _ acc q5 z1 q4)
      rw [spec_l2Evict.l0, if_pos q1, if_pos q2, r, if_pos c, withE, w64 (n := 64 * y) (by omega) (by omega), e4]
      have e5 := repl_eq b l[i].f1 q (by omega) (by omega)
      rw [← hq] at e5
      rw [e5, Option.bind_some, show y.toNat = q by omega]
      rfl
    · rw [if_neg c]
      refine Ev.step (f := fun k => spec_l2Evict.l0 k y ((i + 1 : Nat) : Int) s0 l b (acc ++ [l[i]])) (fun k => ?_) (ih (i + 1) b (acc ++ [l[i]]) q5 hb (q6 _))
      rw [spec_l2Evict.l0, if_pos q1, if_pos q2, r, if_neg c, if_pos q3, e4]
theorem sEv (s : ByteArray) (l : List S67) (y : Int) (hs : s.size ≤ 1048576) (hl : l.length ≤ 1048576) : Ev (fun k => spec_Evict.f k s l y) (evictP s l y) := by
  unfold spec_Evict.f evictP
  refine evThen (sDO s l hs hl) (fun k => rfl) ?_
  by_cases c : DevOk s l
  · simp only [if_pos ((devOkB_iff s l).2 c), spec_l2Count.f, Option.bind_some, w64 (n := (s.size : Int) / 64) (by omega) (by omega), w64 (n := (s.size : Int) / 64 - 1) (by omega) (by omega), sIn]
    by_cases c2 : 0 ≤ y ∧ y ≤ (s.size : Int) / 64 - 1
    · have c2' : decide (0 ≤ y ∧ y ≤ (s.size : Int) / 64 - 1) = true := decide_eq_true c2
      simp only [c2', if_true]
      rw [if_pos ⟨c, c2⟩]
      have h := sEv_l l y s s.size hs hl ⟨c2.1, by omega⟩ (okL_of c) l.length 0 s [] (by omega) rfl (by simp)
      refine evThen (g := fun k => spec_l2Evict.f k s l y) (Ev.congr (fun k => ?_) h) (fun k => rfl) (Ev.now _)
      unfold spec_l2Evict.f
      rfl
    · have c2' : decide (0 ≤ y ∧ y ≤ (s.size : Int) / 64 - 1) = false := decide_eq_false c2
      simp only [c2', Bool.false_eq_true, if_false]
      rw [if_neg (fun z => c2 z.2)]; exact Ev.now _
  · have : ¬ devOkB s l = true := fun z => c ((devOkB_iff s l).1 z)
    simp only [if_neg this]; rw [if_neg (fun z => c z.1)]; exact Ev.now _
theorem iEv (s : ByteArray) (l : List S67) (y : Int) (hs : s.size ≤ 1048576) (hl : l.length ≤ 1048576) : Ev (fun k => impl_Evict.f k s l y) (evictP s l y) := by
  unfold impl_Evict.f evictP
  refine evThen (iDO s l hs hl) (fun k => rfl) ?_
  by_cases c : DevOk s l
  · simp only [if_pos ((devOkB_iff s l).2 c), hasE s l y hs, Option.bind_some]
    by_cases c2 : 0 ≤ y ∧ y ≤ (s.size : Int) / 64 - 1
    · have c2' : decide (0 ≤ y ∧ y ≤ (s.size : Int) / 64 - 1) = true := decide_eq_true c2
      simp only [c2', if_true]
      rw [if_pos ⟨c, c2⟩]
      have hsr := srt_of c
      have hp := List.pairwise_iff_getElem.1 hsr
      have e1 : impl_Device_own.f s l = some (s, l) := by
        unfold impl_Device_own.f impl_Line.f
        rw [if_pos (by omega)]; rfl
      have e2 : impl_Device_find.f s l y = some (((impl_Device_find.idx l y : Nat) : Int), (decide (impl_Device_find.idx l y < l.length) && decide ((rd_T67 l (impl_Device_find.idx l y : Nat)).f0 = y))) := by
        unfold impl_Device_find.f
        rw [if_pos (show impl_Device_find.srt l from hsr), if_pos (by omega)]
      simp only [e1, e2, Option.bind_some]
      obtain ⟨q, hq⟩ := Int.eq_ofNat_of_zero_le c2.1
      by_cases cx : ∃ j, ∃ hj : j < l.length, l[j].f0 = y
      · obtain ⟨j, hj, e⟩ := cx
        have hi := idx_at2 l hsr y j hj e
        rw [hi, rd_nat l j hj]
        have eb : (decide (j < l.length) && decide (l[j].f0 = y)) = true := by simp [hj, e]
        rw [eb]
        have hsz := (okL_of c l[j] (by simp)).2.2.1
        have e5 := repl_eq s l[j].f1 q (by omega) (by omega)
        rw [← hq] at e5
        have ol : evictL y l s.data.toList [] = (layd s.data.toList y.toNat l[j].f1.data.toList, l.eraseIdx j) := by
          have sp : l = l.take j ++ l[j] :: l.drop (j + 1) := by rw [← List.drop_eq_getElem_cons hj, List.take_append_drop]
          rw [List.eraseIdx_eq_take_drop_succ]
          conv => lhs; rw [sp]
          refine evict_one y _ _ _ _ (fun z hz => ?_) (fun z hz => ?_) e
          · obtain ⟨t, ht, rfl⟩ := List.getElem_of_mem hz
            rw [List.length_take] at ht
            rw [List.getElem_take]
            have := hp t j (by omega) hj (by omega); omega
          · obtain ⟨t, ht, rfl⟩ := List.getElem_of_mem hz
            rw [List.length_drop] at ht
            rw [List.getElem_drop]
            have := hp j (j + 1 + t) hj (by omega) (by omega); omega
        rw [ol]
        unfold impl_Evict.out
        refine evIs fun k => ?_
        rw [if_pos rfl, rd_nat l j hj, w64 (n := 64 * y) (by omega) (by omega), e5, Option.bind_some, show y.toNat = q by omega, Int.toNat_natCast]
        rfl
      · have nb : (decide (impl_Device_find.idx l y < l.length) && decide ((rd_T67 l (impl_Device_find.idx l y : Nat)).f0 = y)) = false := by
          by_cases hb : impl_Device_find.idx l y < l.length
          · have : ¬ (rd_T67 l (impl_Device_find.idx l y : Nat)).f0 = y := fun z => cx ⟨_, hb, by rw [rd_nat l _ hb] at z; exact z⟩
            simp [this]
          · simp [hb]
        rw [nb, evict_no y l s.data.toList [] (fun z hz => by
          obtain ⟨t, ht, rfl⟩ := List.getElem_of_mem hz
          exact fun e => cx ⟨t, ht, e⟩)]
        unfold impl_Evict.out
        refine evIs fun k => ?_
        rw [if_neg (by decide)]
        rfl
    · have c2' : decide (0 ≤ y ∧ y ≤ (s.size : Int) / 64 - 1) = false := decide_eq_false c2
      simp only [c2', Bool.false_eq_true, if_false]
      rw [if_neg (fun z => c2 z.2)]; exact Ev.now _
  · have : ¬ devOkB s l = true := fun z => c ((devOkB_iff s l).1 z)
    simp only [if_neg this]; rw [if_neg (fun z => c z.1)]; exact Ev.now _
theorem FnExactEvict (s : ByteArray) (l : List S92) (y : Int) (hs : s.size ≤ 9223372036854775807) (hl : l.length ≤ 9223372036854775807) (hy : -9223372036854775808 ≤ y ∧ y ≤ 9223372036854775807) : ∃ k, laws_FnExactEvict.f k s l y = some true := by
  refine Ev.rounds (r := true) ?_
  unfold laws_FnExactEvict.f
  obtain ⟨r, hr, hb⟩ := szDevice_ev s l hs hl
  refine evThen hr (fun k => rfl) ?_
  by_cases c : r < 0
  · simp only [if_pos c]; exact Ev.now _
  · obtain ⟨hs', hl'⟩ := hb (by omega)
    have hm : (l.map cv).length ≤ 1048576 := by rw [List.length_map]; exact hl'
    have t := toDevice_ev s l hl'
    have hp := Nat.le_trans (evictP_len s (l.map cv) y) hm
    have hi := iEv s (l.map cv) y hs' hm
    have hsp := sEv s (l.map cv) y hs' hm
    generalize evictP s (l.map cv) y = R at *
    obtain ⟨R1, R2, R3⟩ := R
    simp only at hp
    have q1 := eqDevice_refl R1 R2 (by omega)
    have mh := markHeld_ev R1 R2 hp
    have mx := markHeld_ev s (l.map cv) hm
    have hc : ¬ (1 + 3 * (R2.length : Int) < 0) := by omega
    have hc2 : ¬ (1 + 3 * ((l.map cv).length : Int) < 0) := by omega
    have j2 : Ev (fun k => laws_FnExactEvict.j2 k (1 + 3 * (R2.length : Int)) false R1 (mL R2.length 1)) true := by
      refine Ev.step (f := fun k => _) (fun k => by simp (implicitDefEqProofs := false) only [laws_FnExactEvict.j2, Bool.false_eq_true, if_false]; rfl) ?_
      refine evThen (mh.2 _) (fun k => rfl) (evIs fun k => ?_)
      simp only [if_neg hc, if_true]
    have j1 : Ev (fun k => laws_FnExactEvict.j1 k y R3 false s l R1 R2 R1 R2) true := by
      refine Ev.step (f := fun k => _) (fun k => by simp (implicitDefEqProofs := false) only [laws_FnExactEvict.j1, Bool.false_eq_true, if_false]; rfl) ?_
      refine evThen mh.1 (fun k => rfl) (evThen (mh.2 _) (fun k => rfl) ?_)
      simp only [if_neg hc, if_true]
      refine evThen t (fun k => rfl) (evThen hi (fun k => rfl) (evThen q1 (fun k => rfl) ?_))
      simp only [if_true, bne_self_eq_false]
      exact j2
    have j0 : Ev (fun k => laws_FnExactEvict.j0 k y R3 R3 false s l R1 R2 s (l.map cv) R1 R2) true := by
      refine Ev.step (f := fun k => _) (fun k => by simp (implicitDefEqProofs := false) only [laws_FnExactEvict.j0, Bool.false_eq_true, if_false]; rfl) ?_
      refine evThen t (fun k => rfl) (evThen (eqDevice_refl s (l.map cv) (by omega)) (fun k => rfl) ?_)
      simp only [if_true]
      refine evThen mx.1 (fun k => rfl) ?_
      simp only [if_neg hc2]
      refine evThen q1 (fun k => rfl) ?_
      simp only [if_true, bne_self_eq_false]
      exact j1
    simp only [if_neg c]
    refine evThen t (fun k => rfl) (evThen hsp (fun k => rfl) (evThen t (fun k => rfl) (evThen hi (fun k => rfl) (evThen q1 (fun k => rfl) ?_))))
    simp only [if_true, bne_self_eq_false]
    exact j0
end Go.Proofs.Ytbbbajnnoficbaa.Pure
