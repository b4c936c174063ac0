/- A stored string is visible where it was stored, and everything else is as it was; nothing of it is safe yet: FnStored returns true for all arguments; no condition. -/
import Derived.Test.YtbbbajnnoficbaaPFnStoredx0
import Derived.Test.YtbbbajnnoficbaaPFnStoredx1
import Derived.Test.YtbbbajnnoficbaaPFnStoredx2
import Derived.Test.YtbbbajnnoficbaaPFnStoredx3
import Derived.Test.YtbbbajnnoficbaaPFnStoredx4
import Derived.Test.YtbbbajnnoficbaaPFnStoredx5
import Derived.Test.YtbbbajnnoficbaaPFnStoredx6
import Derived.Test.YtbbbajnnoficbaaPFnStoredx7
import Derived.Test.YtbbbajnnoficbaaPFnStoredx8
import Derived.Test.YtbbbajnnoficbaaPFnStoredx9
import Derived.Test.YtbbbajnnoficbaaPFnStoredx10
import Derived.Test.YtbbbajnnoficbaaPFnStoredx11
import Derived.Test.YtbbbajnnoficbaaPFnStoredx12
namespace Go.Proofs.Ytbbbajnnoficbaa.Pure
open Go.RowKit Go.Proofs.Ytbbbajnnoficbaa.PFnStored Go.Proofs.YtbbbajnnoficbaaW.PrintWords Go.Proofs.YtbbbajnnoficbaaW.PrintLast
set_option linter.unusedVariables false
set_option linter.unusedSimpArgs false
theorem sIn (a b c : Int) : spec_l1In.f a b c = some (decide (b ≤ a ∧ a ≤ c)) := by
  unfold spec_l1In.f
  by_cases h : a ≥ b
  · rw [if_pos h]; congr 1; rw [decide_eq_decide]; omega
  · rw [if_neg h]; congr 1; symm; rw [decide_eq_false_iff_not]; omega
theorem w64 {n : Int} (h0 : -9223372036854775808 ≤ n) (h1 : n ≤ 9223372036854775807) : wrap64 n = n := by unfold wrap64; omega
theorem u64 (n : Int) : IntKind.u64.wrap n = n % 18446744073709551616 := by simp [IntKind.wrap, IntKind.bits, IntKind.signed]
theorem evThen {α β : Type} {g : Nat → Option α} {h : Nat → Option β} {f : Nat → α → Option β} {a : α} {r : β} (e : Ev g a) (he : ∀ k, h k = (g k).bind (f k)) (k : Ev (fun n => f n a) r) : Ev h r := Ev.congr he (Ev.bind e k)
theorem evIs {α : Type} {g : Nat → Option α} {r : α} (h : ∀ k, g k = some r) : Ev g r := ⟨0, fun k _ => h k⟩
theorem evIs1 {α : Type} {g : Nat → Option α} {r : α} (h : ∀ k, g (k + 1) = some r) : Ev g r := ⟨1, fun k hk => by cases k with | zero => omega | succ k => exact h k⟩
/-- A line of a right device, by its number. -/
def lineOk (s : ByteArray) (l : List S67) (i : Nat) : Prop :=
  (0 ≤ (rd_T67 l i).f0 ∧ (rd_T67 l i).f0 ≤ (s.size : Int) / 64 - 1) ∧ (0 < i → (rd_T67 l ((i : Int) - 1)).f0 < (rd_T67 l i).f0) ∧ (rd_T67 l i).f1.size = 64 ∧ ((rd_T67 l i).f2.size = 64 ∨ (rd_T67 l i).f2.toList = [])
def DevOk (s : ByteArray) (l : List S67) : Prop := ((s.size : Int) % 64 = 0 ∧ 1 ≤ (s.size : Int) / 64 ∧ (s.size : Int) / 64 ≤ 128) ∧ ∀ j, j < l.length → lineOk s l j
/-- The lines from i on. -/
def okFrom (s : ByteArray) (l : List S67) (i : Nat) : Prop := ∀ j, i ≤ j → j < l.length → lineOk s l j
open Classical in
noncomputable def okFromB (s : ByteArray) (l : List S67) (i : Nat) : Bool := decide (okFrom s l i)
open Classical in
noncomputable def devOkB (s : ByteArray) (l : List S67) : Bool := decide (DevOk s l)
open Classical in
theorem okFromB_end (s : ByteArray) (l : List S67) (i : Nat) (h : l.length ≤ i) : okFromB s l i = true := by
  unfold okFromB; exact decide_eq_true (fun j h1 h2 => by omega)
open Classical in
theorem okFromB_no (s : ByteArray) (l : List S67) (i : Nat) (h : i < l.length) (hn : ¬ lineOk s l i) : okFromB s l i = false := by
  unfold okFromB; exact decide_eq_false (fun z => hn (z i (Nat.le_refl i) h))
open Classical in
theorem okFromB_yes (s : ByteArray) (l : List S67) (i : Nat) (hy : lineOk s l i) : okFromB s l i = okFromB s l (i + 1) := by
  unfold okFromB
  congr 1
  refine propext ⟨fun z j h1 h2 => z j (by omega) h2, fun z j h1 h2 => ?_⟩
  by_cases e : j = i
  · subst e; exact hy
  · exact z j (by omega) h2
open Classical in
theorem devOkB_no (s : ByteArray) (l : List S67) (h : ¬ ((s.size : Int) % 64 = 0 ∧ 1 ≤ (s.size : Int) / 64 ∧ (s.size : Int) / 64 ≤ 128)) : devOkB s l = false := by
  unfold devOkB; exact decide_eq_false (fun z => h z.1)
open Classical in
theorem devOkB_go (s : ByteArray) (l : List S67) (h : (s.size : Int) % 64 = 0) (h' : 1 ≤ (s.size : Int) / 64 ∧ (s.size : Int) / 64 ≤ 128) : devOkB s l = okFromB s l 0 := by
  unfold devOkB okFromB
  congr 1
  exact propext ⟨fun z j _ h2 => z.2 j h2, fun z => ⟨⟨h, h'⟩, fun j h2 => z j (Nat.zero_le j) h2⟩⟩
open Classical in
theorem devOkB_iff (s : ByteArray) (l : List S67) : devOkB s l = true ↔ DevOk s l := by
  unfold devOkB; exact decide_eq_true_iff
theorem sDOl (s : ByteArray) (l : List S67) (hs : s.size ≤ 1048576) (hl : l.length ≤ 1048576) : ∀ (n i : Nat), i + n = l.length → Ev (fun k => spec_DeviceOk.l0 k (i : Int) s l) (okFromB s l i) := by
  intro n
  induction n with
  | zero =>
    intro i hi
    rw [okFromB_end s l i (by omega)]
    exact Ev.step (f := fun _ => some true) (fun k => by simp only [spec_DeviceOk.l0]; rw [if_neg (by omega)]) (Ev.now _)
  | succ n ih =>
    intro i hi
    have h := ih (i + 1) (by omega)
    have e1 : wrap64 ((s.size : Int) / 64) = (s.size : Int) / 64 := w64 (by omega) (by omega)
    have e2 : wrap64 ((s.size : Int) / 64 - 1) = (s.size : Int) / 64 - 1 := w64 (by omega) (by omega)
    have e3 : wrap64 ((i : Int) + 1) = ((i + 1 : Nat) : Int) := by rw [w64 (by omega) (by omega)]; rfl
    have e4 : wrap64 ((i : Int) - 1) = (i : Int) - 1 := w64 (by omega) (by omega)
    have no : ¬ lineOk s l i → (∀ k, spec_DeviceOk.l0 (k + 1) (i : Int) s l = some false) → Ev (fun k => spec_DeviceOk.l0 k (i : Int) s l) (okFromB s l i) := by
      intro hn hk
      rw [okFromB_no s l i (by omega) hn]
      exact Ev.step (f := fun _ => some false) hk (Ev.now _)
    have yes : lineOk s l i → (∀ k, spec_DeviceOk.l0 (k + 1) (i : Int) s l = spec_DeviceOk.l0 k ((i + 1 : Nat) : Int) s l) → Ev (fun k => spec_DeviceOk.l0 k (i : Int) s l) (okFromB s l i) := by
      intro hy hk
      rw [okFromB_yes s l i hy]
      exact Ev.step (f := fun k => spec_DeviceOk.l0 k ((i + 1 : Nat) : Int) s l) hk h
    have base : ∀ k, spec_DeviceOk.l0 (k + 1) (i : Int) s l = _ := fun k => by
      simp (implicitDefEqProofs := false) only [spec_DeviceOk.l0, spec_l2Count.f, sIn, Option.bind_some, e1, e2, e3, e4, if_pos (show (i : Int) < (l.length : Int) by omega), if_pos (show (0 : Int) ≤ (i : Int) by omega)]
      rfl
    by_cases c1 : 0 ≤ (rd_T67 l i).f0 ∧ (rd_T67 l i).f0 ≤ (s.size : Int) / 64 - 1
    · have c1' : decide (0 ≤ (rd_T67 l i).f0 ∧ (rd_T67 l i).f0 ≤ (s.size : Int) / 64 - 1) = true := decide_eq_true c1
      have tail : ∀ (hb : 0 < i → (rd_T67 l ((i : Int) - 1)).f0 < (rd_T67 l i).f0) (hk : ∀ k, spec_DeviceOk.l0 (k + 1) (i : Int) s l = (if (((rd_T67 l i).f1).size : Int) = 64 then (if (((rd_T67 l i).f2).size : Int) = 64 then (spec_DeviceOk.l0 k ((i + 1 : Nat) : Int) s l) else (if ((rd_T67 l i).f2).toList = ([] : List UInt8) then (spec_DeviceOk.l0 k ((i + 1 : Nat) : Int) s l) else (some false))) else (some false))), Ev (fun k => spec_DeviceOk.l0 k (i : Int) s l) (okFromB s l i) := by
        intro hb hk
        by_cases c3 : (((rd_T67 l i).f1).size : Int) = 64
        · by_cases c4 : (((rd_T67 l i).f2).size : Int) = 64
          · exact yes ⟨c1, hb, by omega, .inl (by omega)⟩ (fun k => by rw [hk, if_pos c3, if_pos c4])
          · by_cases c5 : ((rd_T67 l i).f2).toList = ([] : List UInt8)
            · exact yes ⟨c1, hb, by omega, .inr c5⟩ (fun k => by rw [hk, if_pos c3, if_neg c4, if_pos c5])
            · exact no (fun z => by rcases z.2.2.2 with z | z; exact c4 (by omega); exact c5 z) (fun k => by rw [hk, if_pos c3, if_neg c4, if_neg c5])
        · exact no (fun z => c3 (by have := z.2.2.1; omega)) (fun k => by rw [hk, if_neg c3])
      by_cases c2 : (i : Int) > 0
      · by_cases c6 : (rd_T67 l i).f0 ≤ (rd_T67 l ((i : Int) - 1)).f0
        · exact no (fun z => by have := z.2.1 (by omega); omega) (fun k => by rw [base, c1', if_pos rfl, if_pos c2, if_pos (by omega), if_pos (by omega), if_pos c6])
        · exact tail (fun _ => by omega) (fun k => by rw [base, c1', if_pos rfl, if_pos c2, if_pos (by omega), if_pos (by omega), if_neg c6])
      · exact tail (fun z => by omega) (fun k => by rw [base, c1', if_pos rfl, if_neg c2])
    · have c1' : decide (0 ≤ (rd_T67 l i).f0 ∧ (rd_T67 l i).f0 ≤ (s.size : Int) / 64 - 1) = false := decide_eq_false c1
      exact no (fun z => c1 z.1) (fun k => by rw [base, c1', if_neg (by decide)])
theorem sDO (s : ByteArray) (l : List S67) (hs : s.size ≤ 1048576) (hl : l.length ≤ 1048576) : Ev (fun k => spec_DeviceOk.f k s l) (devOkB s l) := by
  have h := sDOl s l hs hl l.length 0 (by omega)
  have e1 : wrap64 ((s.size : Int) / 64) = (s.size : Int) / 64 := w64 (by omega) (by omega)
  have jt : Ev (fun k => spec_DeviceOk.j0 k true s l) false := Ev.step (f := fun _ => some false) (fun k => by simp only [spec_DeviceOk.j0, if_true]) (Ev.now _)
  have jf : Ev (fun k => spec_DeviceOk.j0 k false s l) (okFromB s l 0) := Ev.step (f := fun k => spec_DeviceOk.l0 k ((0 : Nat) : Int) s l) (fun k => by simp only [spec_DeviceOk.j0]; rw [if_neg (by decide)]; rfl) h
  unfold spec_DeviceOk.f
  by_cases c : (s.size : Int) % 64 = 0
  · simp only [if_pos c, spec_l2Count.f, sIn, Option.bind_some, e1]
    by_cases d : 1 ≤ (s.size : Int) / 64 ∧ (s.size : Int) / 64 ≤ 128
    · rw [devOkB_go s l c d]; simpa [d] using jf
    · rw [devOkB_no s l (fun z => d z.2)]; simpa [d] using jt
  · simp only [if_neg c]
    rw [devOkB_no s l (fun z => c z.1)]; exact jt
def safeL (s : ByteArray) (a : Int) : ByteArray := s.extract (64 * a).toNat (64 * a + 64).toNat
theorem rd_nat (l : List S67) (i : Nat) (h : i < l.length) : rd_T67 l (i : Int) = l[i] := by simp [rd_T67, List.getD, h]
/-- The i-th 64 bytes. -/
def blk (b : List UInt8) (i : Nat) : List UInt8 := (b.drop (64 * i)).take 64
theorem blk_length (b : List UInt8) (i : Nat) (h : 64 * i + 64 ≤ b.length) : (blk b i).length = 64 := by simp [blk]; omega
theorem blk_lay (b d : List UInt8) (a i : Nat) (hd : d.length = 64) (ha : 64 * a + 64 ≤ b.length) (hi : 64 * i + 64 ≤ b.length) :
    blk (b.take (64 * a) ++ d ++ b.drop (64 * a + d.length)) i = if i = a then d else blk b i := by
  rw [hd]
  apply List.ext_getElem?
  intro j
  unfold blk
  rw [List.getElem?_take, List.getElem?_drop]
  by_cases hj : j < 64
  · rw [if_pos hj, List.append_assoc, List.getElem?_append, List.getElem?_append, List.length_take, hd, show min (64 * a) b.length = 64 * a by omega]
    by_cases e : i = a
    · subst e
      rw [if_pos rfl, if_neg (by omega), if_pos (by omega)]
      congr 1; omega
    · rw [if_neg e, show ((b.drop (64 * i)).take 64)[j]? = b[64 * i + j]? from by rw [List.getElem?_take, if_pos hj, List.getElem?_drop]]
      by_cases e2 : 64 * i + j < 64 * a
      · rw [if_pos e2, List.getElem?_take, if_pos e2]
      · rw [if_neg e2, if_neg (by omega), List.getElem?_drop]
        congr 1; omega
  · rw [if_neg hj]
    by_cases e : i = a
    · rw [if_pos e, List.getElem?_eq_none (by omega)]
    · rw [if_neg e, List.getElem?_take, if_neg hj]
theorem join_blk (b : List UInt8) : ∀ n : Nat, (List.range n).flatMap (blk b) = b.take (64 * n)
  | 0 => by simp
  | n + 1 => by
    rw [List.range_succ, List.flatMap_append, join_blk b n, show 64 * (n + 1) = 64 * n + 64 by omega, List.take_add]
    simp [blk]
/-- What is seen of line i. -/
def seenB (s : List UInt8) (l : List S67) (i : Nat) : List UInt8 := l.foldl (fun acc x => if x.f0 = (i : Int) then x.f1.data.toList else acc) (blk s i)
def srt (l : List S67) : Prop := l.Pairwise (fun x y => x.f0 < y.f0)
theorem foldl_no (l : List S67) (i : Int) (h : ∀ x ∈ l, x.f0 ≠ i) : ∀ a : List UInt8, l.foldl (fun acc x => if x.f0 = i then x.f1.data.toList else acc) a = a := by
  induction l with
  | nil => intro a; rfl
  | cons x l ih =>
    intro a
    rw [List.foldl_cons, if_neg (h x (by simp))]
    exact ih (fun y hy => h y (by simp [hy])) a
theorem foldl_find (i : Int) : ∀ (l : List S67), srt l → ∀ a : List UInt8, l.foldl (fun acc x => if x.f0 = i then x.f1.data.toList else acc) a =
    if (l[l.countP (fun x => decide (x.f0 < i))]?).any (fun x => decide (x.f0 = i)) = true then (l.getD (l.countP (fun x => decide (x.f0 < i))) z67).f1.data.toList else a
  | [], _, a => by simp
  | x :: l, h, a => by
    have hx := (List.pairwise_cons.1 h).1
    have hl := (List.pairwise_cons.1 h).2
    rw [List.foldl_cons]
    by_cases c : x.f0 < i
    · rw [if_neg (by omega), foldl_find i l hl a, List.countP_cons_of_pos (by simpa using c)]
      simp
    · have z : (x :: l).countP (fun x => decide (x.f0 < i)) = 0 := by
        rw [List.countP_eq_zero]
        intro y hy
        rcases List.mem_cons.1 hy with rfl | hy
        · simpa using c
        · have := hx y hy; simp; omega
      rw [z, foldl_no l i (fun y hy => by have := hx y hy; omega)]
      by_cases e : x.f0 = i <;> simp [e]
theorem srt_of {s : ByteArray} {l : List S67} (hd : DevOk s l) : srt l := by
  have h1 : ∀ i, i + 1 < l.length → (rd_T67 l (i : Int)).f0 < (rd_T67 l ((i + 1 : Nat) : Int)).f0 := by
    intro i hi
    have := (hd.2 (i + 1) hi).2.1 (by omega)
    rwa [show (((i + 1 : Nat) : Int) - 1) = (i : Int) by omega] at this
  have h2 : ∀ (d i : Nat), i + (d + 1) < l.length → (rd_T67 l (i : Int)).f0 < (rd_T67 l ((i + (d + 1) : Nat) : Int)).f0 := by
    intro d
    induction d with
    | zero => intro i hi; exact h1 i hi
    | succ d ih =>
      intro i hi
      have a := ih i (by omega)
      have b := h1 (i + (d + 1)) (by omega)
      rw [show i + (d + 1 + 1) = i + (d + 1) + 1 by omega]
      omega
  unfold srt
  rw [List.pairwise_iff_getElem]
  intro i j hi hj hij
  have := h2 (j - i - 1) i (by omega)
  rw [show i + (j - i - 1 + 1) = j by omega, rd_nat l i hi, rd_nat l j hj] at this
  exact this
/-- All lines laid over the safe contents. -/
def layAll (b : List UInt8) (l : List S67) : List UInt8 := l.foldl (fun b x => b.take (64 * x.f0).toNat ++ x.f1.data.toList ++ b.drop ((64 * x.f0).toNat + x.f1.data.toList.length)) b
theorem layAll_blk : ∀ (l : List S67) (b : List UInt8), (∀ x ∈ l, 0 ≤ x.f0 ∧ 64 * x.f0 + 64 ≤ (b.length : Int) ∧ x.f1.size = 64) → (layAll b l).length = b.length ∧ ∀ i, 64 * i + 64 ≤ b.length → blk (layAll b l) i = seenB b l i
  | [], b, _ => ⟨rfl, fun i _ => rfl⟩
  | x :: l, b, h => by
    obtain ⟨h1, h2, h3⟩ := h x (by simp)
    obtain ⟨n, hn⟩ := Int.eq_ofNat_of_zero_le h1
    have h3' : x.f1.data.toList.length = 64 := by rw [← h3]; simp
    have e : (64 * x.f0).toNat = 64 * n := by omega
    have hlen : (b.take (64 * x.f0).toNat ++ x.f1.data.toList ++ b.drop ((64 * x.f0).toNat + x.f1.data.toList.length)).length = b.length := by
      simp only [List.length_append, List.length_take, List.length_drop, h3']; omega
    obtain ⟨a1, a2⟩ := layAll_blk l (b.take (64 * x.f0).toNat ++ x.f1.data.toList ++ b.drop ((64 * x.f0).toNat + x.f1.data.toList.length)) (fun y hy => by rw [hlen]; exact h y (by simp [hy]))
    refine ⟨a1.trans hlen, fun i hi => ?_⟩
    have := a2 i (by rw [hlen]; exact hi)
    rw [show layAll b (x :: l) = layAll (b.take (64 * x.f0).toNat ++ x.f1.data.toList ++ b.drop ((64 * x.f0).toNat + x.f1.data.toList.length)) l from rfl, this]
    unfold seenB
    rw [List.foldl_cons, e, blk_lay b x.f1.data.toList n i h3' (by omega) hi, hn]
    by_cases c : i = n
    · rw [if_pos c, if_pos (by rw [c])]
    · rw [if_neg c, if_neg (by omega)]
def seenL (s : List UInt8) (l : List S67) : List UInt8 := (List.range (s.length / 64)).flatMap (seenB s l)
theorem layAll_seen (l : List S67) (b : List UInt8) (hb : b.length % 64 = 0) (h : ∀ x ∈ l, 0 ≤ x.f0 ∧ 64 * x.f0 + 64 ≤ (b.length : Int) ∧ x.f1.size = 64) : layAll b l = seenL b l := by
  obtain ⟨h1, h2⟩ := layAll_blk l b h
  have e := join_blk (layAll b l) (b.length / 64)
  rw [List.take_of_length_le (by rw [h1]; omega)] at e
  rw [← e]
  unfold seenL
  rw [List.flatMap_def, List.flatMap_def]
  congr 1
  apply List.map_congr_left
  intro i hi
  exact h2 i (by have := List.mem_range.1 hi; omega)
def layd (b : List UInt8) (n : Nat) (t : List UInt8) : List UInt8 := b.take (64 * n) ++ t ++ b.drop (64 * n + t.length)
theorem layd_len (b : List UInt8) (n : Nat) (t : List UInt8) (h : 64 * n + t.length ≤ b.length) : (layd b n t).length = b.length := by simp [layd]; omega
/-- What a right device says of each of its lines. -/
def okL (m : Nat) (x : S67) : Prop := 0 ≤ x.f0 ∧ 64 * x.f0 + 64 ≤ (m : Int) ∧ x.f1.size = 64 ∧ (x.f2.size = 64 ∨ x.f2.size = 0)
theorem okL_of {s : ByteArray} {l : List S67} (hd : DevOk s l) : ∀ x ∈ l, okL s.size x := by
  intro x hx
  obtain ⟨i, hi, rfl⟩ := List.getElem_of_mem hx
  have h := hd.2 i hi
  have h1 := hd.1
  unfold lineOk at h
  rw [rd_nat l i hi] at h
  obtain ⟨⟨a, b⟩, _, c, d⟩ := h
  refine ⟨a, by omega, c, ?_⟩
  rcases d with d | d
  · exact .inl d
  · refine .inr ?_
    rw [ByteArray.toList_eq] at d
    have : l[i].f2.data.toList.length = 0 := by rw [d]; rfl
    simpa using this
theorem dlen (d : ByteArray) : d.data.toList.length = d.size := by simp
theorem l2S_l : ∀ (l : List S67) (b : List UInt8), (∀ x ∈ l, okL b.length x) → spec_l2Seen.l l b = some (layAll b l)
  | [], b, _ => rfl
  | x :: xs, b, h => by
    obtain ⟨h1, h2, h3, h4⟩ := h x (by simp)
    obtain ⟨n, hn⟩ := Int.eq_ofNat_of_zero_le h1
    have k1 : (b.take (64 * x.f0).toNat ++ x.f1.data.toList ++ b.drop ((64 * x.f0).toNat + x.f1.data.toList.length)).length = b.length := by
      have := layd_len b n x.f1.data.toList (by rw [dlen]; omega)
      rw [show (64 * x.f0).toNat = 64 * n by omega]; exact this
    unfold spec_l2Seen.l
    rw [if_pos ⟨h1, h2, by omega⟩, l2S_l xs _ (fun y hy => by rw [k1]; exact h y (by simp [hy]))]
    rfl
theorem l2S (s : ByteArray) (l : List S67) (hd : DevOk s l) (hs : s.size ≤ 1048576) : spec_l2Seen.f s l = some ⟨(seenL s.data.toList l).toArray⟩ := by
  unfold spec_l2Seen.f
  rw [if_pos (by omega), l2S_l l _ (fun x hx => by rw [dlen]; exact okL_of hd x hx), layAll_seen]
  · rfl
  · rw [dlen]; have := hd.1; omega
  · intro x hx
    obtain ⟨h1, h2, h3, _⟩ := okL_of hd x hx
    rw [dlen]; exact ⟨h1, h2, h3⟩
theorem iIn (a b c : Int) : impl_within.f a b c = some (decide (b ≤ a ∧ a ≤ c)) := by
  unfold impl_within.f
  by_cases h : a ≥ b
  · rw [if_pos h]; congr 1; rw [decide_eq_decide]; omega
  · rw [if_neg h]; congr 1; symm; rw [decide_eq_false_iff_not]; omega
theorem iDOl (s : ByteArray) (l : List S67) (hs : s.size ≤ 1048576) (hl : l.length ≤ 1048576) : ∀ (n i : Nat), i + n = l.length → Ev (fun k => impl_DeviceOk.l0 k l (l.length : Int) (i : Int) s l) (okFromB s l i) := by
  intro n
  induction n with
  | zero =>
    intro i hi
    rw [okFromB_end s l i (by omega)]
    exact Ev.step (f := fun _ => some true) (fun k => by simp only [impl_DeviceOk.l0]; rw [if_neg (by omega)]) (Ev.now _)
  | succ n ih =>
    intro i hi
    have h := ih (i + 1) (by omega)
    have e1 : wrap64 ((s.size : Int) / 64) = (s.size : Int) / 64 := w64 (by omega) (by omega)
    have e2 : wrap64 ((s.size : Int) / 64 - 1) = (s.size : Int) / 64 - 1 := w64 (by omega) (by omega)
    have e3 : wrap64 ((i : Int) + 1) = ((i + 1 : Nat) : Int) := by rw [w64 (by omega) (by omega)]; rfl
    have e4 : wrap64 ((i : Int) - 1) = (i : Int) - 1 := w64 (by omega) (by omega)
    have no : ¬ lineOk s l i → (∀ k, impl_DeviceOk.l0 (k + 1) l (l.length : Int) (i : Int) s l = some false) → Ev (fun k => impl_DeviceOk.l0 k l (l.length : Int) (i : Int) s l) (okFromB s l i) := by
      intro hn hk
      rw [okFromB_no s l i (by omega) hn]
      exact Ev.step (f := fun _ => some false) hk (Ev.now _)
    have yes : lineOk s l i → (∀ k, impl_DeviceOk.l0 (k + 1) l (l.length : Int) (i : Int) s l = impl_DeviceOk.l0 k l (l.length : Int) ((i + 1 : Nat) : Int) s l) → Ev (fun k => impl_DeviceOk.l0 k l (l.length : Int) (i : Int) s l) (okFromB s l i) := by
      intro hy hk
      rw [okFromB_yes s l i hy]
      exact Ev.step (f := fun k => impl_DeviceOk.l0 k l (l.length : Int) ((i + 1 : Nat) : Int) s l) hk h
    have base : ∀ k, impl_DeviceOk.l0 (k + 1) l (l.length : Int) (i : Int) s l = _ := fun k => by
      simp (implicitDefEqProofs := false) only [impl_DeviceOk.l0, impl_Device_has.f, iIn, Option.bind_some, e1, e2, e3, e4, if_pos (show (i : Int) < (l.length : Int) by omega), if_pos (show (0 : Int) ≤ (i : Int) by omega)]
      rfl
    by_cases c1 : 0 ≤ (rd_T67 l i).f0 ∧ (rd_T67 l i).f0 ≤ (s.size : Int) / 64 - 1
    · have c1' : decide (0 ≤ (rd_T67 l i).f0 ∧ (rd_T67 l i).f0 ≤ (s.size : Int) / 64 - 1) = true := decide_eq_true c1
      have tail : ∀ (hb : 0 < i → (rd_T67 l ((i : Int) - 1)).f0 < (rd_T67 l i).f0) (hk : ∀ k, impl_DeviceOk.l0 (k + 1) l (l.length : Int) (i : Int) s l = (if (((rd_T67 l i).f1).size : Int) = 64 then (if (((rd_T67 l i).f2).size : Int) = 64 then (impl_DeviceOk.l0 k l (l.length : Int) ((i + 1 : Nat) : Int) s l) else (if ((rd_T67 l i).f2).toList = ([] : List UInt8) then (impl_DeviceOk.l0 k l (l.length : Int) ((i + 1 : Nat) : Int) s l) else (some false))) else (some false))), Ev (fun k => impl_DeviceOk.l0 k l (l.length : Int) (i : Int) s l) (okFromB s l i) := by
        intro hb hk
        by_cases c3 : (((rd_T67 l i).f1).size : Int) = 64
        · by_cases c4 : (((rd_T67 l i).f2).size : Int) = 64
          · exact yes ⟨c1, hb, by omega, .inl (by omega)⟩ (fun k => by rw [hk, if_pos c3, if_pos c4])
          · by_cases c5 : ((rd_T67 l i).f2).toList = ([] : List UInt8)
            · exact yes ⟨c1, hb, by omega, .inr c5⟩ (fun k => by rw [hk, if_pos c3, if_neg c4, if_pos c5])
            · exact no (fun z => by rcases z.2.2.2 with z | z; exact c4 (by omega); exact c5 z) (fun k => by rw [hk, if_pos c3, if_neg c4, if_neg c5])
        · exact no (fun z => c3 (by have := z.2.2.1; omega)) (fun k => by rw [hk, if_neg c3])
      by_cases c2 : (i : Int) > 0
      · by_cases c6 : (rd_T67 l i).f0 ≤ (rd_T67 l ((i : Int) - 1)).f0
        · exact no (fun z => by have := z.2.1 (by omega); omega) (fun k => by rw [base, c1', if_pos rfl, if_pos c2, if_pos (by omega), if_pos (by omega), if_pos c6])
        · exact tail (fun _ => by omega) (fun k => by rw [base, c1', if_pos rfl, if_pos c2, if_pos (by omega), if_pos (by omega), if_neg c6])
      · exact tail (fun z => by omega) (fun k => by rw [base, c1', if_pos rfl, if_neg c2])
    · have c1' : decide (0 ≤ (rd_T67 l i).f0 ∧ (rd_T67 l i).f0 ≤ (s.size : Int) / 64 - 1) = false := decide_eq_false c1
      exact no (fun z => c1 z.1) (fun k => by rw [base, c1', if_neg (by decide)])
theorem iDO (s : ByteArray) (l : List S67) (hs : s.size ≤ 1048576) (hl : l.length ≤ 1048576) : Ev (fun k => impl_DeviceOk.f k s l) (devOkB s l) := by
  have h := iDOl s l hs hl l.length 0 (by omega)
  have e1 : wrap64 ((s.size : Int) / 64) = (s.size : Int) / 64 := w64 (by omega) (by omega)
  have jt : Ev (fun k => impl_DeviceOk.j0 k true s l) false := Ev.step (f := fun _ => some false) (fun k => by simp only [impl_DeviceOk.j0, if_true]) (Ev.now _)
  have jf : Ev (fun k => impl_DeviceOk.j0 k false s l) (okFromB s l 0) := Ev.step (f := fun k => impl_DeviceOk.l0 k l (l.length : Int) ((0 : Nat) : Int) s l) (fun k => by simp only [impl_DeviceOk.j0]; rw [if_neg (by decide)]; rfl) h
  unfold impl_DeviceOk.f
  by_cases c : (s.size : Int) % 64 = 0
  · simp only [if_pos c, iIn, Option.bind_some, e1]
    by_cases d : 1 ≤ (s.size : Int) / 64 ∧ (s.size : Int) / 64 ≤ 128
    · rw [devOkB_go s l c d]; simpa [d] using jf
    · rw [devOkB_no s l (fun z => d z.2)]; simpa [d] using jt
  · simp only [if_neg c]
    rw [devOkB_no s l (fun z => c z.1)]; exact jt
theorem rd_mid2 (p r : List S67) (y : S67) (i : Nat) (h : p.length = i) : rd_T67 (p ++ y :: r) (i : Int) = y := by
  subst h; simp [rd_T67, List.getD]
theorem set_mid2 (p r : List S67) (y z : S67) (i : Nat) (h : p.length = i) : (p ++ y :: r).set i z = p ++ z :: r := by
  subst h; rw [List.set_append_right _ _ (by omega), Nat.sub_self, List.set_cons_zero]
theorem hasE (s : ByteArray) (l : List S67) (x : Int) (hs : s.size ≤ 1048576) : impl_Device_has.f s l x = some (decide (0 ≤ x ∧ x ≤ (s.size : Int) / 64 - 1)) := by
  unfold impl_Device_has.f
  rw [iIn, Option.bind_some, w64 (n := (s.size : Int) / 64) (by omega) (by omega), w64 (n := (s.size : Int) / 64 - 1) (by omega) (by omega)]
theorem safeE (s : ByteArray) (l : List S67) (i : Nat) (h : 64 * i + 64 ≤ s.size) (hs : s.size ≤ 1048576) : impl_Device_safeLine.f s l (i : Int) = some ⟨(blk s.data.toList i).toArray⟩ := by
  unfold impl_Device_safeLine.f
  rw [w64 (n := 64 * (i : Int)) (by omega) (by omega), w64 (n := 64 * (i : Int) + 64) (by omega) (by omega), if_pos (by omega), if_pos (by omega), if_pos (by omega)]
  congr 1
  apply ByteArray.ext
  rw [show (64 * (i : Int)).toNat = 64 * i by omega, show (64 * (i : Int) + 64).toNat = 64 * i + 64 by omega]
  apply Array.ext'
  unfold blk
  simp [ByteArray.data_extract, Array.toList_extract, List.extract_eq_take_drop]
  try (congr 1; omega)
theorem seenB_len (s : List UInt8) (i : Nat) (h : 64 * i + 64 ≤ s.length) : ∀ (l : List S67), (∀ x ∈ l, x.f1.size = 64) → (seenB s l i).length = 64 := by
  have key : ∀ (l : List S67) (a : List UInt8), a.length = 64 → (∀ x ∈ l, x.f1.size = 64) → (l.foldl (fun acc x => if x.f0 = (i : Int) then x.f1.data.toList else acc) a).length = 64 := by
    intro l
    induction l with
    | nil => intro a ha _; exact ha
    | cons x l ih =>
      intro a ha hx
      rw [List.foldl_cons]
      refine ih _ ?_ (fun y hy => hx y (by simp [hy]))
      split
      · rw [dlen]; exact hx x (by simp)
      · exact ha
  intro l hl
  exact key l _ (blk_length s i h) hl
theorem lineE (s : ByteArray) (l : List S67) (hd : DevOk s l) (hs : s.size ≤ 1048576) (hl : l.length ≤ 1048576) (i : Nat) (h : 64 * i + 64 ≤ s.size) : impl_Device_seenLine.f s l (i : Int) = some ⟨(seenB s.data.toList l i).toArray⟩ := by
  have hsr := srt_of hd
  have e := foldl_find (i : Int) l hsr (blk s.data.toList i)
  have ei : impl_Device_find.idx l (i : Int) = l.countP (fun x => decide (x.f0 < (i : Int))) := rfl
  unfold impl_Device_seenLine.f impl_Device_find.f
  rw [if_pos (show impl_Device_find.srt l from hsr), if_pos (by omega), Option.bind_some]
  simp only [ei]
  unfold seenB
  generalize hc : l.countP (fun x => decide (x.f0 < (i : Int))) = c at *
  have hle : c ≤ l.length := by rw [← hc]; exact List.countP_le_length
  by_cases c1 : c < l.length
  · have r := rd_nat l c c1
    have g : l[c]? = some l[c] := by simp [c1]
    have gd : l.getD c z67 = l[c] := by simp [List.getD, c1]
    rw [g, gd] at e
    rw [r]
    by_cases c2 : l[c].f0 = (i : Int)
    · rw [if_pos (by simp [c2])] at e
      rw [e]
      simp only [c1, c2, decide_true, Bool.and_self, if_true]
      rw [if_pos (by omega), if_pos (by omega)]
    · rw [if_neg (by simp [c2])] at e
      rw [e]
      simp only [c1, c2, decide_true, decide_false, Bool.and_false, Bool.false_eq_true, if_false]
      rw [safeE s l i h hs]; rfl
  · have g : l[c]? = none := by simp; omega
    rw [g] at e
    rw [if_neg (by simp)] at e
    rw [e]
    simp only [c1, decide_false, Bool.false_and, Bool.false_eq_true, if_false]
    rw [safeE s l i h hs]; rfl
theorem part_len (s : ByteArray) (l : List S67) (hd : DevOk s l) : ∀ i : Nat, 64 * i ≤ s.size → ((List.range i).flatMap (seenB s.data.toList l)).length = 64 * i
  | 0, _ => rfl
  | i + 1, h => by
    rw [List.range_succ, List.flatMap_append, List.length_append, part_len s l hd i (by omega)]
    simp only [List.flatMap_cons, List.flatMap_nil, List.append_nil]
    rw [seenB_len s.data.toList i (by rw [dlen]; omega) l (fun x hx => (okL_of hd x hx).2.2.1)]
    omega
theorem iSn_l (s : ByteArray) (l : List S67) (hd : DevOk s l) (hs : s.size ≤ 1048576) (hl : l.length ≤ 1048576) : ∀ (n i : Nat), i + n = s.size / 64 → Ev (fun k => impl_Device_seen.l s l k (i : Int) ((List.range i).flatMap (seenB s.data.toList l))) (seenL s.data.toList l) := by
  intro n
  have h1 := hd.1
  induction n with
  | zero =>
    intro i hi
    refine Ev.step (f := fun _ => some (seenL s.data.toList l)) (fun k => ?_) (Ev.now _)
    have ne : ¬ ((List.range i).flatMap (seenB s.data.toList l)) = [] := by
      intro z
      have := part_len s l hd i (by omega)
      rw [z] at this; simp at this; omega
    unfold impl_Device_seen.l
    rw [hasE s l _ hs, Option.bind_some, if_neg (by simp; omega), if_neg ne]
    unfold seenL
    rw [dlen, show s.size / 64 = i by omega]
  | succ n ih =>
    intro i hi
    have h := ih (i + 1) (by omega)
    have hp := part_len s l hd i (by omega)
    have hq : ((⟨(seenB s.data.toList l i).toArray⟩ : ByteArray)).size = 64 := by
      have := seenB_len s.data.toList i (by rw [dlen]; omega) l (fun x hx => (okL_of hd x hx).2.2.1)
      exact List.size_toArray.trans this
    refine Ev.step (f := fun k => impl_Device_seen.l s l k ((i + 1 : Nat) : Int) ((List.range (i + 1)).flatMap (seenB s.data.toList l))) (fun k => ?_) h
    rw [impl_Device_seen.l, hasE s l _ hs, Option.bind_some, if_pos (by simp; omega), lineE s l hd hs hl i (by omega), Option.bind_some, if_pos (by rw [hp, hq]; omega), List.range_succ, List.flatMap_append]
    simp
theorem iSn (s : ByteArray) (l : List S67) (hd : DevOk s l) (hs : s.size ≤ 1048576) (hl : l.length ≤ 1048576) : Ev (fun k => impl_Device_seen.f k s l) ⟨(seenL s.data.toList l).toArray⟩ := by
  have h := iSn_l s l hd hs hl (s.size / 64) 0 (by omega)
  refine evThen (g := fun k => impl_Device_seen.l s l k 0 []) (f := fun _ b => some ⟨b.toArray⟩) h (fun k => ?_) (Ev.now _)
  unfold impl_Device_seen.f
  cases impl_Device_seen.l s l k 0 [] <;> rfl
noncomputable def seenP (s : ByteArray) (l : List S67) : ByteArray := open Classical in if DevOk s l then ⟨(seenL s.data.toList l).toArray⟩ else (⟨#[]⟩ : ByteArray)
theorem sSe (s : ByteArray) (l : List S67) (hs : s.size ≤ 1048576) (hl : l.length ≤ 1048576) : Ev (fun k => spec_Seen.f k s l) (seenP s l) := by
  unfold spec_Seen.f seenP
  refine evThen (sDO s l hs hl) (fun k => rfl) ?_
  by_cases c : DevOk s l
  · simp only [if_pos ((devOkB_iff s l).2 c), if_pos c, l2S s l c hs, Option.bind_some]
    exact Ev.now _
  · have : ¬ devOkB s l = true := fun z => c ((devOkB_iff s l).1 z)
    simp only [if_neg this, if_neg c]; exact Ev.now _
theorem iSe (s : ByteArray) (l : List S67) (hs : s.size ≤ 1048576) (hl : l.length ≤ 1048576) : Ev (fun k => impl_Seen.f k s l) (seenP s l) := by
  unfold impl_Seen.f seenP
  refine evThen (iDO s l hs hl) (fun k => rfl) ?_
  by_cases c : DevOk s l
  · simp only [if_pos ((devOkB_iff s l).2 c), if_pos c]
    exact evThen (iSn s l c hs hl) (fun k => rfl) (Ev.now _)
  · have : ¬ devOkB s l = true := fun z => c ((devOkB_iff s l).1 z)
    simp only [if_neg this, if_neg c]; exact Ev.now _
theorem seenL_size (s : ByteArray) (l : List S67) (hd : DevOk s l) : (⟨(seenL s.data.toList l).toArray⟩ : ByteArray).size = s.size := by
  have h := part_len s l hd (s.size / 64) (by omega)
  have h1 := hd.1
  refine List.size_toArray.trans ?_
  unfold seenL
  rw [dlen, h]; omega
noncomputable def loadP (s : ByteArray) (l : List S67) (a n : Int) : ByteArray × Bool := open Classical in if DevOk s l ∧ 0 ≤ a ∧ 0 ≤ n ∧ a + n ≤ (s.size : Int) then ((⟨(seenL s.data.toList l).toArray⟩ : ByteArray).extract a.toNat (a + n).toNat, true) else ((⟨#[]⟩ : ByteArray), false)
theorem iLo (s : ByteArray) (l : List S67) (a n : Int) (hs : s.size ≤ 1048576) (hl : l.length ≤ 1048576) (ha : -9223372036854775808 ≤ a ∧ a ≤ 9223372036854775807) (hn : -9223372036854775808 ≤ n ∧ n ≤ 9223372036854775807) : Ev (fun k => impl_Load.f k s l a n) (loadP s l a n) := by
  unfold impl_Load.f loadP
  refine evThen (iDO s l hs hl) (fun k => rfl) ?_
  by_cases c : DevOk s l
  · simp only [if_pos ((devOkB_iff s l).2 c)]
    by_cases c1 : a < 0
    · simp only [if_pos c1]; rw [if_neg (by omega)]; exact Ev.now _
    simp only [if_neg c1]
    rw [w64 (n := (s.size : Int) - a) (by omega) (by omega)]
    simp only [iIn, Option.bind_some]
    by_cases c2 : 0 ≤ n ∧ n ≤ (s.size : Int) - a
    · have c2' : decide (0 ≤ n ∧ n ≤ (s.size : Int) - a) = true := decide_eq_true c2
      simp only [c2', if_true]
      rw [w64 (n := a + n) (by omega) (by omega)]
      have z := seenL_size s l c
      refine evThen (iSn s l c hs hl) (fun k => rfl) ?_
      rw [if_pos (⟨c, by omega, by omega, by omega⟩ : DevOk s l ∧ 0 ≤ a ∧ 0 ≤ n ∧ a + n ≤ (s.size : Int))]
      simp only [if_pos (show 0 ≤ a by omega), if_pos (show a ≤ a + n by omega), z, if_pos (show a + n ≤ (s.size : Int) by omega)]
      exact Ev.now _
    · have c2' : decide (0 ≤ n ∧ n ≤ (s.size : Int) - a) = false := decide_eq_false c2
      simp only [c2', Bool.false_eq_true, if_false]
      rw [if_neg (by omega)]; exact Ev.now _
  · have : ¬ devOkB s l = true := fun z => c ((devOkB_iff s l).1 z)
    simp only [if_neg this]; rw [if_neg (fun z => c z.1)]; exact Ev.now _
/-- a text with some bytes replaced from a place on -/
def withP (s : ByteArray) (a : Nat) (d : ByteArray) : ByteArray := (s.extract 0 a ++ d) ++ s.extract (a + d.size) s.size
theorem withP_size (s : ByteArray) (a : Nat) (d : ByteArray) (h : a + d.size ≤ s.size) : (withP s a d).size = s.size := by
  unfold withP; rw [ByteArray.size_append, ByteArray.size_append, ByteArray.size_extract, ByteArray.size_extract]; omega
theorem sWith (s : ByteArray) (a : Nat) (d : ByteArray) (h : a + d.size ≤ s.size) (hs : s.size ≤ 4611686018427387904) : spec_l2With.f s a d = some (withP s a d) := by
  unfold spec_l2With.f withP
  have e1 : wrap64 ((a : Int) + (d.size : Int)) = ((a + d.size : Nat) : Int) := by rw [w64 (by omega) (by omega)]; omega
  rw [if_pos (by omega), if_pos (by omega), if_pos (by rw [ByteArray.size_extract]; omega), e1, if_pos (by omega), if_pos (by omega), if_pos (by rw [ByteArray.size_append, ByteArray.size_extract, ByteArray.size_extract]; omega)]
  simp only [Int.toNat_natCast]
/-- one line after a store of t at its place o -/
def stx (y : Int) (o : Nat) (t : ByteArray) (x : S67) : S67 := if x.f0 = y then ⟨x.f0, withP x.f1 o t, x.f2⟩ else x
def stNew (s : ByteArray) (y : Int) (o : Nat) (t : ByteArray) : S67 := ⟨y, withP (safeL s y) o t, (⟨#[]⟩ : ByteArray)⟩
def storeL (s : ByteArray) (y : Int) (o : Nat) (t : ByteArray) : Bool → List S67 → List S67 → List S67
  | d, [], acc => if d = true then acc else acc ++ [stNew s y o t]
  | d, x :: xs, acc => if d = false ∧ y < x.f0 then storeL s y o t true xs (acc ++ [stNew s y o t] ++ [x]) else if x.f0 = y then storeL s y o t true xs (acc ++ [stx y o t x]) else storeL s y o t d xs (acc ++ [x])
theorem store_nil (s : ByteArray) (y : Int) (o : Nat) (t : ByteArray) (d : Bool) (acc : List S67) : storeL s y o t d [] acc = if d = true then acc else acc ++ [stNew s y o t] := rfl
theorem store_cons (s : ByteArray) (y : Int) (o : Nat) (t : ByteArray) (d : Bool) (x : S67) (xs acc : List S67) : storeL s y o t d (x :: xs) acc = if d = false ∧ y < x.f0 then storeL s y o t true xs (acc ++ [stNew s y o t] ++ [x]) else if x.f0 = y then storeL s y o t true xs (acc ++ [stx y o t x]) else storeL s y o t d xs (acc ++ [x]) := rfl
theorem safeL_size (s : ByteArray) (y : Int) (hy : 0 ≤ y) (hs : 64 * y + 64 ≤ (s.size : Int)) : (safeL s y).size = 64 := by
  unfold safeL; rw [ByteArray.size_extract]; omega
theorem sSt_l (l : List S67) (s : ByteArray) (y a : Int) (o : Nat) (t : ByteArray) (hm : s.size ≤ 1048576) (hl : l.length ≤ 1048576) (hy : 0 ≤ y) (hs : 64 * y + 64 ≤ (s.size : Int)) (ha : Int.tmod a 64 = (o : Int)) (ht : o + t.size ≤ 64) (hd : ∀ x ∈ l, x.f0 = y → x.f1.size = 64) :
    ∀ (n i : Nat) (d : Bool) (acc : List S67), i + n = l.length → acc.length ≤ 2 * i → Ev (fun k => spec_l2Store.l0 k a t y d (i : Int) s l s acc) (s, storeL s y o t d (l.drop i) acc) := by
  have w1 : wrap64 (64 * y) = 64 * y := w64 (by omega) (by omega)
  have w2 : wrap64 (wrap64 (64 * y) + 64) = 64 * y + 64 := by rw [w1]; exact w64 (by omega) (by omega)
  have g1 : 0 ≤ 64 * y := by omega
  have g2 : 64 * y ≤ 64 * y + 64 := by omega
  have ez : spec_l2With.f (s.extract (64 * y).toNat (64 * y + 64).toNat) (Int.tmod a 64) t = some (withP (safeL s y) o t) := by
    have hz := safeL_size s y hy hs
    rw [ha]
    exact sWith (safeL s y) o t (by omega) (by omega)
  intro n
  induction n with
  | zero =>
    intro i d acc hi hacc
    rw [List.drop_of_length_le (by omega)]
    have b1 : acc.length < 3518437208883 := by omega
    have nb : ¬ ((i : Int) < (l.length : Int)) := by omega
    refine evIs1 (fun k => ?_)
    rw [spec_l2Store.l0, if_neg nb, store_nil]
    by_cases c : d = true
    · rw [if_pos c, if_pos c]
    · rw [if_neg c, if_neg c, w2, w1, if_pos g1, if_pos g2, if_pos hs, ez, Option.bind_some, if_pos b1]
      rfl
  | succ n ih =>
    intro i d acc hi hacc
    have hi' : i < l.length := by omega
    have b1 : acc.length < 3518437208883 := by omega
    have l1 : ∀ x : S67, (acc ++ [x]).length ≤ 2 * (i + 1) := fun x => by rw [List.length_append, List.length_singleton]; omega
    have l2 : ∀ x z : S67, (acc ++ [x] ++ [z]).length ≤ 2 * (i + 1) := fun x z => by rw [List.length_append, List.length_append, List.length_singleton, List.length_singleton]; omega
    have b2 : ∀ x : S67, (acc ++ [x]).length < 3518437208883 := fun x => Nat.lt_of_le_of_lt (l1 x) (by omega)
    have q1 : (i : Int) < (l.length : Int) := Int.ofNat_lt.2 hi'
    have q2 : 0 ≤ (i : Int) := Int.natCast_nonneg i
    have q5 : (i + 1) + n = l.length := by omega
    have e4 : wrap64 ((i : Int) + 1) = ((i + 1 : Nat) : Int) := by rw [w64 (by omega) (by omega)]; rfl
    have dl : l.drop i = l[i] :: l.drop (i + 1) := List.drop_eq_getElem_cons hi'
    have r := rd_nat l i hi'
    have hx : l[i].f0 = y → spec_l2With.f l[i].f1 (Int.tmod a 64) t = some (withP l[i].f1 o t) := fun e => by
      have := hd l[i] (List.getElem_mem _) e
      rw [ha]; exact sWith _ o t (by omega) (by omega)
    rw [dl, store_cons]
    have key : ∀ (dd : Bool) (acc' : List S67), acc'.length ≤ 2 * (i + 1) → Ev (fun k => spec_l2Store.l0 k a t y dd ((i + 1 : Nat) : Int) s l s acc') (s, storeL s y o t dd (l.drop (i + 1)) acc') := fun dd acc' h' => ih (i + 1) dd acc' q5 h'
    by_cases c1 : d = false ∧ y < l[i].f0
    · rw [if_pos c1]
      have nx : ¬ l[i].f0 = y := by omega
      have k1 := key true _ (l2 (stNew s y o t) l[i])
      refine Ev.step (f := fun k => spec_l2Store.j1 k a t y d (i : Int) true s l s acc l[i].f0 l[i].f1 l[i].f2) (fun k => ?_) (Ev.step (fun k => ?_) k1)
      · have hg : decide (l[i].f0 > y) = true := decide_eq_true c1.2
        have ne : ¬ d = true := by rw [c1.1]; decide
        rw [spec_l2Store.l0, if_pos q1, if_pos q2, if_neg ne, r, hg]
      · rw [spec_l2Store.j1, if_pos rfl, w2, w1, if_pos g1, if_pos g2, if_pos hs, ez, Option.bind_some, if_pos b1, Option.bind_some, if_neg nx, if_pos (b2 _), e4]
        rfl
    · rw [if_neg c1]
      have hj : ∀ k, spec_l2Store.l0 (k + 1) a t y d (i : Int) s l s acc = spec_l2Store.j1 k a t y d (i : Int) false s l s acc l[i].f0 l[i].f1 l[i].f2 := fun k => by
        rw [spec_l2Store.l0, if_pos q1, if_pos q2, r]
        by_cases cd : d = true
        · rw [if_pos cd]
        · rw [if_neg cd, decide_eq_false (fun z => c1 ⟨Bool.eq_false_iff.2 cd, z⟩)]
      refine Ev.step (f := fun k => spec_l2Store.j1 k a t y d (i : Int) false s l s acc l[i].f0 l[i].f1 l[i].f2) hj ?_
      by_cases c2 : l[i].f0 = y
      · rw [if_pos c2]
        refine Ev.step (fun k => ?_) (key true _ (l1 (stx y o t l[i])))
        rw [spec_l2Store.j1, if_neg (by decide), if_pos c2, hx c2, Option.bind_some, if_pos b1, e4]
        unfold stx
        rw [if_pos c2]
      · rw [if_neg c2]
        refine Ev.step (fun k => ?_) (key d _ (l1 l[i]))
        rw [spec_l2Store.j1, if_neg (by decide), if_neg c2, if_pos b1, e4]
theorem sSt (l : List S67) (s : ByteArray) (y : Int) (o : Nat) (t : ByteArray) (hm : s.size ≤ 1048576) (hl : l.length ≤ 1048576) (hy : 0 ≤ y) (hs : 64 * y + 64 ≤ (s.size : Int)) (ho : o < 64) (ht : o + t.size ≤ 64) (hd : ∀ x ∈ l, x.f0 = y → x.f1.size = 64) :
    Ev (fun k => spec_l2Store.f k s l (64 * y + (o : Int)) t) (s, storeL s y o t false l []) := by
  have e1 : Int.tdiv (64 * y + (o : Int)) 64 = y := by rw [Int.tdiv_eq_ediv_of_nonneg (by omega)]; omega
  have e2 : Int.tmod (64 * y + (o : Int)) 64 = (o : Int) := by rw [Int.tmod_eq_emod_of_nonneg (by omega)]; omega
  have h := sSt_l l s y (64 * y + (o : Int)) o t hm hl hy hs e2 ht hd l.length 0 false [] (by omega) (by simp)
  refine Ev.congr (fun k => ?_) h
  unfold spec_l2Store.f
  rw [e1, w64 (by omega) (by omega)]
  rfl
theorem store_len (s : ByteArray) (y : Int) (o : Nat) (t : ByteArray) : ∀ (l : List S67) (d : Bool) (acc : List S67), (storeL s y o t d l acc).length ≤ acc.length + l.length + (if d = true then 0 else 1)
  | [], d, acc => by
    rw [store_nil]; by_cases c : d = true
    · rw [if_pos c, if_pos c]; simp
    · rw [if_neg c, if_neg c]; simp
  | x :: xs, d, acc => by
    rw [store_cons]
    by_cases c : d = false ∧ y < x.f0
    · rw [if_pos c]
      refine Nat.le_trans (store_len s y o t xs true _) ?_
      rw [c.1]; simp; omega
    · rw [if_neg c]
      by_cases c2 : x.f0 = y
      · rw [if_pos c2]
        refine Nat.le_trans (store_len s y o t xs true _) ?_
        simp; omega
      · rw [if_neg c2]
        refine Nat.le_trans (store_len s y o t xs d _) ?_
        simp; omega
theorem store_ok (s : ByteArray) (y : Int) (o : Nat) (t : ByteArray) (hy : 0 ≤ y) (hs : 64 * y + 64 ≤ (s.size : Int)) (ht : o + t.size ≤ 64) : ∀ (l : List S67) (d : Bool) (acc : List S67), (∀ x ∈ l, okL s.size x) → (∀ x ∈ acc, okL s.size x) → ∀ x ∈ storeL s y o t d l acc, okL s.size x := by
  have hn : okL s.size (stNew s y o t) := ⟨hy, hs, by rw [show (stNew s y o t).f1 = withP (safeL s y) o t from rfl, withP_size _ _ _ (by rw [safeL_size s y hy hs]; omega), safeL_size s y hy hs], Or.inr rfl⟩
  intro l
  induction l with
  | nil =>
    intro d acc _ ha x hx
    rw [store_nil] at hx
    by_cases c : d = true
    · rw [if_pos c] at hx; exact ha x hx
    · rw [if_neg c] at hx
      rcases List.mem_append.1 hx with h | h
      · exact ha x h
      · rw [List.mem_singleton.1 h]; exact hn
  | cons z zs ih =>
    intro d acc hl ha
    have hz := hl z (by simp)
    have hzs : ∀ x ∈ zs, okL s.size x := fun x hx => hl x (by simp [hx])
    have snoc : ∀ (q : List S67) (e : S67), (∀ x ∈ q, okL s.size x) → okL s.size e → ∀ x ∈ q ++ [e], okL s.size x := fun q e hq he x hx => by
      rcases List.mem_append.1 hx with h | h
      · exact hq x h
      · rw [List.mem_singleton.1 h]; exact he
    rw [store_cons]
    by_cases c : d = false ∧ y < z.f0
    · rw [if_pos c]; exact ih true _ hzs (snoc _ _ (snoc _ _ ha hn) hz)
    · rw [if_neg c]
      by_cases c2 : z.f0 = y
      · rw [if_pos c2]
        refine ih true _ hzs (snoc _ _ ha ?_)
        unfold stx; rw [if_pos c2]
        exact ⟨hz.1, hz.2.1, by rw [show (S67.mk z.f0 (withP z.f1 o t) z.f2).f1 = withP z.f1 o t from rfl, withP_size _ _ _ (by have := hz.2.2.1; omega)]; exact hz.2.2.1, hz.2.2.2⟩
      · rw [if_neg c2]; exact ih d _ hzs (snoc _ _ ha hz)
/-- A right device, line by line. -/
theorem devOk_of {s : ByteArray} {l : List S67} (h1 : (s.size : Int) % 64 = 0) (h2 : 1 ≤ (s.size : Int) / 64 ∧ (s.size : Int) / 64 ≤ 128) (ho : ∀ x ∈ l, okL s.size x) (hs : srt l) : DevOk s l := by
  refine ⟨⟨h1, h2.1, h2.2⟩, fun j hj => ?_⟩
  obtain ⟨a, b, c, d⟩ := ho l[j] (List.getElem_mem hj)
  have r := rd_nat l j hj
  refine ⟨⟨by rw [r]; exact a, by rw [r]; omega⟩, fun hp => ?_, by rw [r]; exact c, ?_⟩
  · have hj' : j - 1 < l.length := by omega
    have r' := rd_nat l (j - 1) hj'
    rw [show ((j : Int) - 1) = ((j - 1 : Nat) : Int) by omega, r, r']
    exact (List.pairwise_iff_getElem.1 hs) (j - 1) j hj' hj (by omega)
  · rw [r]
    rcases d with d | d
    · exact Or.inl d
    · refine Or.inr ?_
      rw [ByteArray.toList_eq]
      exact List.length_eq_zero_iff.1 (by rw [dlen]; exact d)
theorem iWith (s : ByteArray) (a : Nat) (d : ByteArray) (h : a + d.size ≤ s.size) (hs : s.size ≤ 4611686018427387904) : impl_replaced.f s a d = some (withP s a d) := sWith s a d h hs
theorem st_pre (s : ByteArray) (y : Int) (o : Nat) (t : ByteArray) (r : List S67) : ∀ (p acc : List S67), (∀ x ∈ p, x.f0 < y) → storeL s y o t false (p ++ r) acc = storeL s y o t false r (acc ++ p)
  | [], acc, _ => by simp
  | x :: p, acc, h => by
    have hx := h x (by simp)
    rw [List.cons_append, store_cons, if_neg (by intro z; omega), if_neg (by omega), st_pre s y o t r p (acc ++ [x]) (fun z hz => h z (by simp [hz]))]
    simp
theorem st_done (s : ByteArray) (y : Int) (o : Nat) (t : ByteArray) : ∀ (r acc : List S67), (∀ x ∈ r, x.f0 ≠ y) → storeL s y o t true r acc = acc ++ r
  | [], acc, _ => by rw [store_nil, if_pos rfl]; simp
  | x :: r, acc, h => by
    have hx := h x (by simp)
    rw [store_cons, if_neg (by intro z; exact absurd z.1 (by decide)), if_neg hx, st_done s y o t r (acc ++ [x]) (fun z hz => h z (by simp [hz]))]
    simp
theorem split_srt (y : Int) : ∀ (l : List S67), srt l → ∃ p r, l = p ++ r ∧ (∀ x ∈ p, x.f0 < y) ∧ (∀ x ∈ r, y ≤ x.f0)
  | [], _ => ⟨[], [], rfl, (fun x hx => by cases hx), (fun x hx => by cases hx)⟩
  | x :: l, h => by
    have hx := (List.pairwise_cons.1 h).1
    obtain ⟨p, r, e, h1, h2⟩ := split_srt y l (List.pairwise_cons.1 h).2
    by_cases c : x.f0 < y
    · refine ⟨x :: p, r, by rw [e]; rfl, fun z hz => ?_, h2⟩
      rcases List.mem_cons.1 hz with rfl | hz
      · exact c
      · exact h1 z hz
    · refine ⟨[], x :: l, rfl, (fun z hz => by cases hz), fun z hz => ?_⟩
      rcases List.mem_cons.1 hz with rfl | hz
      · omega
      · have := hx z hz; omega
theorem idx_split (y : Int) (p r : List S67) (h1 : ∀ x ∈ p, x.f0 < y) (h2 : ∀ x ∈ r, y ≤ x.f0) : impl_Device_find.idx (p ++ r) y = p.length := by
  unfold impl_Device_find.idx
  rw [List.countP_append, List.countP_eq_length.2 (fun x hx => by simpa using h1 x hx), List.countP_eq_zero.2 (fun x hx => by have := h2 x hx; simp; omega)]
  rfl
theorem safeLine_eq (s : ByteArray) (l : List S67) (y : Int) (hs : s.size ≤ 1048576) (hy : 0 ≤ y) (h : 64 * y + 64 ≤ (s.size : Int)) : impl_Device_safeLine.f s l y = some (safeL s y) := by
  have e1 : wrap64 (64 * y) = 64 * y := w64 (by omega) (by omega)
  have e2 : wrap64 (64 * y + 64) = 64 * y + 64 := w64 (by omega) (by omega)
  unfold impl_Device_safeLine.f
  rw [e1, e2, if_pos (by omega), if_pos (by omega), if_pos h]
  rfl
/-- The program's way of a store: the line is found, or laid at its place; then its bytes are replaced. -/
theorem put_store (s : ByteArray) (l : List S67) (y : Int) (o : Nat) (t : ByteArray) (hs : s.size ≤ 1048576) (hl : l.length ≤ 1048576) (hd : DevOk s l) (hy : 0 ≤ y) (hys : 64 * y + 64 ≤ (s.size : Int)) (ht : o + t.size ≤ 64) :
    ((impl_Device_find.f s l y).bind fun q => (impl_Store.ins s l y q.1 q.2).bind fun L => impl_Store.fin L (o : Int) t q.1) = some (storeL s y o t false l []) := by
  have hsr := srt_of hd
  have hok := okL_of hd
  have e2 : impl_Device_find.f s l y = some (((impl_Device_find.idx l y : Nat) : Int), (decide (impl_Device_find.idx l y < l.length) && decide ((rd_T67 l (impl_Device_find.idx l y : Nat)).f0 = y))) := by
    unfold impl_Device_find.f
    rw [if_pos (show impl_Device_find.srt l from hsr), if_pos (by omega)]
  obtain ⟨p, r, e, h1, h2⟩ := split_srt y l hsr
  have hidx := idx_split y p r h1 h2
  subst e
  rw [e2, hidx, Option.bind_some]
  simp only
  by_cases c : ∃ x r', r = x :: r' ∧ x.f0 = y
  · obtain ⟨x, r', rfl, hx⟩ := c
    have rx : rd_T67 (p ++ x :: r') ((p.length : Nat) : Int) = x := rd_mid2 p r' x p.length rfl
    have eb : (decide (p.length < (p ++ x :: r').length) && decide ((rd_T67 (p ++ x :: r') ((p.length : Nat) : Int)).f0 = y)) = true := by rw [rx]; simp [hx]
    have nr : ∀ z ∈ r', z.f0 ≠ y := fun z hz => by
      have := (List.pairwise_cons.1 (List.pairwise_append.1 hsr).2.1).1 z hz
      omega
    have hx1 := (hok x (by simp)).2.2.1
    rw [eb]
    unfold impl_Store.ins impl_Store.fin
    rw [if_pos rfl, Option.bind_some, rx, iWith x.f1 o t (by omega) (by omega), Option.bind_some, Int.toNat_natCast, set_mid2 p r' x _ p.length rfl]
    rw [st_pre s y o t (x :: r') p [] h1, store_cons, if_neg (by intro z; omega), if_pos hx, st_done s y o t r' _ nr]
    unfold stx
    rw [if_pos hx]
    simp
  · have eb : (decide (p.length < (p ++ r).length) && decide ((rd_T67 (p ++ r) ((p.length : Nat) : Int)).f0 = y)) = false := by
      cases r with
      | nil => simp
      | cons x r' =>
        rw [rd_mid2 p r' x p.length rfl]
        have : ¬ x.f0 = y := fun z => c ⟨x, r', rfl, z⟩
        simp [this]
    have zz : (safeL s y).size = 64 := safeL_size s y hy hys
    have rm : rd_T67 (p ++ (⟨y, safeL s y, (⟨#[]⟩ : ByteArray)⟩ : S67) :: r) ((p.length : Nat) : Int) = ⟨y, safeL s y, (⟨#[]⟩ : ByteArray)⟩ := rd_mid2 p r _ p.length rfl
    rw [eb]
    unfold impl_Store.ins impl_Store.fin
    rw [if_neg (by decide), safeLine_eq s _ y hs hy hys, Option.bind_some, if_pos (by omega), Option.bind_some, Int.toNat_natCast, List.take_left, List.drop_left, rm, iWith (safeL s y) o t (by omega) (by omega), Option.bind_some, set_mid2 p r _ _ p.length rfl]
    rw [st_pre s y o t r p [] h1]
    cases r with
    | nil => rw [store_nil, if_neg (by decide)]; rfl
    | cons x r' =>
      have hx : ¬ x.f0 = y := fun z => c ⟨x, r', rfl, z⟩
      have hx2 := h2 x (by simp)
      have nr : ∀ z ∈ r', z.f0 ≠ y := fun z hz => by
        have := (List.pairwise_cons.1 (List.pairwise_append.1 hsr).2.1).1 z hz
        omega
      rw [store_cons, if_pos ⟨rfl, by omega⟩, st_done s y o t r' _ nr]
      unfold stNew
      simp
noncomputable def storeP (s : ByteArray) (l : List S67) (a : Int) (t : ByteArray) : ByteArray × List S67 × Bool := open Classical in if DevOk s l ∧ (1 ≤ t.size ∧ t.size ≤ 64) ∧ 0 ≤ a ∧ a < (s.size : Int) ∧ a % 64 + (t.size : Int) ≤ 64 then (s, storeL s (a / 64) (a % 64).toNat t false l [], true) else ((⟨#[]⟩ : ByteArray), [], false)
theorem storeP_len (s : ByteArray) (l : List S67) (a : Int) (t : ByteArray) : (storeP s l a t).2.1.length ≤ l.length + 1 := by
  unfold storeP
  split
  · have := store_len s (a / 64) (a % 64).toNat t l false []; simp at this; simpa using this
  · simp
theorem srt_len (m : Int) : ∀ (l : List S67) (lo : Int), srt l → (∀ x ∈ l, lo ≤ x.f0 ∧ x.f0 < m) → lo ≤ m → (l.length : Int) ≤ m - lo
  | [], lo, _, _, h => by simp; omega
  | x :: l, lo, hs, h, hl => by
    have hx := (List.pairwise_cons.1 hs).1
    have h0 := h x (by simp)
    have := srt_len m l (x.f0 + 1) (List.pairwise_cons.1 hs).2 (fun z hz => ⟨by have := hx z hz; omega, (h z (by simp [hz])).2⟩) (by omega)
    rw [List.length_cons]; omega
theorem devOk_len {s : ByteArray} {l : List S67} (h : DevOk s l) : l.length ≤ 128 := by
  have h1 := h.1
  have := srt_len ((s.size : Int) / 64) l 0 (srt_of h) (fun x hx => by have := okL_of h x hx; exact ⟨this.1, by have := this.2.1; omega⟩) (by omega)
  omega
theorem storeP_len2 (s : ByteArray) (l : List S67) (a : Int) (t : ByteArray) : (storeP s l a t).2.1.length ≤ 1000 := by
  have h := storeP_len s l a t
  by_cases c : DevOk s l
  · have := devOk_len c; omega
  · unfold storeP; rw [if_neg (fun z => c z.1)]; simp
theorem tmod_nn {a : Int} (h : 0 ≤ a) : Int.tmod a 64 = (((a % 64).toNat : Nat) : Int) := by rw [Int.tmod_eq_emod_of_nonneg h]; omega
theorem tdiv_nn {a : Int} (h : 0 ≤ a) : Int.tdiv a 64 = a / 64 := Int.tdiv_eq_ediv_of_nonneg h
theorem sStP (s : ByteArray) (l : List S67) (a : Int) (t : ByteArray) (hs : s.size ≤ 1048576) (hl : l.length ≤ 1048576) (ht : t.size ≤ 1048576) : Ev (fun k => spec_Store.f k s l a t) (storeP s l a t) := by
  unfold spec_Store.f storeP
  refine evThen (sDO s l hs hl) (fun k => rfl) ?_
  by_cases c : DevOk s l
  · simp only [if_pos ((devOkB_iff s l).2 c), sIn, Option.bind_some]
    by_cases c2 : 1 ≤ t.size ∧ t.size ≤ 64
    · have c2' : decide (1 ≤ (t.size : Int) ∧ (t.size : Int) ≤ 64) = true := decide_eq_true (by omega)
      simp only [c2', if_true]
      by_cases c3 : a < 0
      · rw [if_neg (show ¬ (DevOk s l ∧ (1 ≤ t.size ∧ t.size ≤ 64) ∧ 0 ≤ a ∧ a < (s.size : Int) ∧ a % 64 + (t.size : Int) ≤ 64) from fun z => by omega)]
        simp only [if_pos c3]; exact Ev.now _
      · simp only [if_neg c3]
        by_cases c4 : a ≥ (s.size : Int)
        · rw [if_neg (show ¬ (DevOk s l ∧ (1 ≤ t.size ∧ t.size ≤ 64) ∧ 0 ≤ a ∧ a < (s.size : Int) ∧ a % 64 + (t.size : Int) ≤ 64) from fun z => by omega)]
          simp only [if_pos c4]; exact Ev.now _
        · simp only [if_neg c4]
          have e1 := tmod_nn (a := a) (by omega)
          rw [e1, w64 (by omega) (by omega)]
          by_cases c5 : (((a % 64).toNat : Nat) : Int) + (t.size : Int) > 64
          · rw [if_neg (show ¬ (DevOk s l ∧ (1 ≤ t.size ∧ t.size ≤ 64) ∧ 0 ≤ a ∧ a < (s.size : Int) ∧ a % 64 + (t.size : Int) ≤ 64) from fun z => by omega)]
            simp only [if_pos c5]; exact Ev.now _
          · rw [if_pos ⟨c, c2, by omega, by omega, by omega⟩]
            simp only [if_neg c5]
            have h64 := c.1
            have g := sSt l s (a / 64) (a % 64).toNat t hs hl (by omega) (by omega) (by omega) (by omega) (fun x hx _ => (okL_of c x hx).2.2.1)
            rw [show 64 * (a / 64) + (((a % 64).toNat : Nat) : Int) = a by omega] at g
            exact evThen g (fun k => rfl) (Ev.now _)
    · have c2' : decide (1 ≤ (t.size : Int) ∧ (t.size : Int) ≤ 64) = false := decide_eq_false (by omega)
      rw [if_neg (fun z => c2 z.2.1)]
      simp only [c2', Bool.false_eq_true, if_false]; exact Ev.now _
  · have : ¬ devOkB s l = true := fun z => c ((devOkB_iff s l).1 z)
    simp only [if_neg this]; rw [if_neg (fun z => c z.1)]; exact Ev.now _
theorem iStP (s : ByteArray) (l : List S67) (a : Int) (t : ByteArray) (hs : s.size ≤ 1048576) (hl : l.length ≤ 1048576) (ht : t.size ≤ 1048576) : Ev (fun k => impl_Store.f k s l a t) (storeP s l a t) := by
  unfold impl_Store.f storeP
  refine evThen (iDO s l hs hl) (fun k => rfl) ?_
  by_cases c : DevOk s l
  · simp only [if_pos ((devOkB_iff s l).2 c)]
    by_cases c3 : a < 0
    · rw [if_neg (show ¬ (DevOk s l ∧ (1 ≤ t.size ∧ t.size ≤ 64) ∧ 0 ≤ a ∧ a < (s.size : Int) ∧ a % 64 + (t.size : Int) ≤ 64) from fun z => by omega)]
      simp only [if_pos c3]; exact Ev.now _
    · simp only [if_neg c3]
      by_cases c4 : a < (s.size : Int)
      · have e1 := tmod_nn (a := a) (by omega)
        have e2 := tdiv_nn (a := a) (by omega)
        simp only [if_pos c4, iIn, Option.bind_some]
        rw [e1, e2, w64 (n := 64 - _) (by omega) (by omega), w64 (n := a / 64) (by omega) (by omega)]
        by_cases c5 : DevOk s l ∧ (1 ≤ t.size ∧ t.size ≤ 64) ∧ 0 ≤ a ∧ a < (s.size : Int) ∧ a % 64 + (t.size : Int) ≤ 64
        · have c5' : decide (1 ≤ (t.size : Int) ∧ (t.size : Int) ≤ 64 - (((a % 64).toNat : Nat) : Int)) = true := decide_eq_true (by omega)
          rw [if_pos c5]
          simp only [c5', if_true]
          have h64 := c.1
          have eo : impl_Device_own.f s l = some (s, l) := by
            unfold impl_Device_own.f impl_Line.f
            rw [if_pos (by omega)]; rfl
          have g := put_store s l (a / 64) (a % 64).toNat t hs hl c (by omega) (by omega) (by omega)
          obtain ⟨q, hq, g⟩ := Option.bind_eq_some_iff.1 g
          obtain ⟨L, hL, g⟩ := Option.bind_eq_some_iff.1 g
          refine evIs fun k => ?_
          rw [eo, Option.bind_some, hq, Option.bind_some, hL, Option.bind_some, g, Option.bind_some]
        · have c5' : decide (1 ≤ (t.size : Int) ∧ (t.size : Int) ≤ 64 - (((a % 64).toNat : Nat) : Int)) = false := decide_eq_false (fun z => c5 ⟨c, by omega, by omega, c4, by omega⟩)
          rw [if_neg c5]
          simp only [c5', Bool.false_eq_true, if_false]; exact Ev.now _
      · rw [if_neg (show ¬ (DevOk s l ∧ (1 ≤ t.size ∧ t.size ≤ 64) ∧ 0 ≤ a ∧ a < (s.size : Int) ∧ a % 64 + (t.size : Int) ≤ 64) from fun z => c4 z.2.2.2.1)]
        simp only [if_neg c4]; exact Ev.now _
  · have : ¬ devOkB s l = true := fun z => c ((devOkB_iff s l).1 z)
    simp only [if_neg this]; rw [if_neg (fun z => c z.1)]; exact Ev.now _
theorem sameDev_l (s : ByteArray) (l : List S67) (hl : l.length ≤ 2000000) : ∀ (n i : Nat), i + n = l.length → Ev (fun k => laws_sameDev.l0 k (i : Int) s l s l) true := by
  intro n
  induction n with
  | zero =>
    intro i hi
    exact evIs1 fun k => by rw [laws_sameDev.l0, if_neg (by omega)]
  | succ n ih =>
    intro i hi
    refine Ev.step (fun k => ?_) (ih (i + 1) (by omega))
    rw [laws_sameDev.l0, if_pos (by omega), if_pos (by omega), if_pos (by omega), if_neg (by simp), w64 (by omega) (by omega)]
    rfl
theorem sameDev_ev (s : ByteArray) (l : List S67) (hl : l.length ≤ 2000000) : Ev (fun k => laws_sameDev.f k s l s l) true := by
  refine Ev.congr (f := fun k => laws_sameDev.j0 k false s l s l) (fun k => ?_) (Ev.step (fun k => ?_) (sameDev_l s l hl l.length 0 (by omega)))
  · unfold laws_sameDev.f
    rw [if_pos rfl, bne_self_eq_false]
  · rw [laws_sameDev.j0, if_neg (by decide)]
    rfl
def fenceL : List S67 → List UInt8 → List S67 → List UInt8 × List S67
  | [], b, acc => (b, acc)
  | x :: xs, b, acc => fenceL xs (layd b x.f0.toNat x.f2.data.toList) (if x.f2.toList = x.f1.toList then acc else acc ++ [⟨x.f0, x.f1, (⟨#[]⟩ : ByteArray)⟩])
theorem fenceL_len : ∀ (l : List S67) (b : List UInt8) (acc : List S67), (fenceL l b acc).2.length ≤ acc.length + l.length
  | [], b, acc => Nat.le_refl _
  | x :: xs, b, acc => by
    unfold fenceL
    refine Nat.le_trans (fenceL_len xs _ _) ?_
    split <;> simp <;> omega
theorem sFe_l : ∀ (l : List S67) (b : List UInt8) (acc : List S67), (∀ x ∈ l, okL b.length x) → acc.length + l.length ≤ 2000000 → spec_l2Fence.l l b acc = some (fenceL l b acc)
  | [], b, acc, _, _ => rfl
  | x :: xs, b, acc, h, hl => by
    obtain ⟨h1, h2, h3, h4⟩ := h x (by simp)
    obtain ⟨n, hn⟩ := Int.eq_ofNat_of_zero_le h1
    have en : x.f0.toNat = n := by omega
    have k2 : (layd b n x.f2.data.toList).length = b.length := layd_len _ _ _ (by rw [dlen]; omega)
    simp only [List.length_cons] at hl
    unfold spec_l2Fence.l fenceL
    rw [if_pos ⟨h1, h2, by omega, by omega⟩, show (64 * x.f0).toNat = 64 * n by omega, en]
    have e : b.take (64 * n) ++ x.f2.data.toList ++ b.drop (64 * n + x.f2.data.toList.length) = layd b n x.f2.data.toList := rfl
    rw [e]
    by_cases c : x.f2.toList = x.f1.toList
    · rw [if_pos c, if_pos c, sFe_l xs _ acc (fun y hy => by rw [k2]; exact h y (by simp [hy])) (by omega)]
    · rw [if_neg c, if_neg c, sFe_l xs _ _ (fun y hy => by rw [k2]; exact h y (by simp [hy])) (by simp; omega)]
def fl (y : Int) (x : S67) : S67 := if x.f0 = y then ⟨x.f0, x.f1, x.f1⟩ else x
theorem sFl_l (s : ByteArray) (l : List S67) (y : Int) (hl : l.length ≤ 1048576) : ∀ (n i : Nat), i + n = l.length → Ev (fun k => spec_l2Flush.l0 k y (i : Int) s ((l.take i).map (fl y) ++ l.drop i)) (s, l.map (fl y)) := by
  intro n
  induction n with
  | zero =>
    intro i hi
    obtain rfl : i = l.length := by omega
    refine Ev.step (f := fun _ => some _) (fun k => ?_) (Ev.now _)
    simp only [spec_l2Flush.l0]
    rw [if_neg (by simp)]
    simp
  | succ n ih =>
    intro i hi
    have h := ih (i + 1) (by omega)
    have hi' : i < l.length := by omega
    have hp : ((l.take i).map (fl y)).length = i := by simp; omega
    have r : rd_T67 ((l.take i).map (fl y) ++ l.drop i) (i : Int) = l[i] := by
      rw [List.drop_eq_getElem_cons hi', rd_mid2 _ _ _ i hp]
    have e4 : wrap64 ((i : Int) + 1) = ((i + 1 : Nat) : Int) := by rw [w64 (by omega) (by omega)]; rfl
    have et : (l.take (i + 1)).map (fl y) ++ l.drop (i + 1) = (l.take i).map (fl y) ++ fl y l[i] :: l.drop (i + 1) := by
      rw [List.take_add_one, List.getElem?_eq_getElem hi']
      simp only [Option.toList_some, List.map_append, List.map_cons, List.map_nil, List.append_assoc, List.singleton_append]
    rw [et] at h
    refine Ev.step (f := fun k => spec_l2Flush.l0 k y ((i + 1 : Nat) : Int) s ((l.take i).map (fl y) ++ fl y l[i] :: l.drop (i + 1))) (fun k => ?_) h
    rw [spec_l2Flush.l0, if_pos (by simp; omega), if_pos (by omega), r, e4]
    by_cases c : l[i].f0 = y
    · rw [if_pos c, Int.toNat_natCast, List.drop_eq_getElem_cons hi', set_mid2 _ _ _ _ i hp]
      simp [fl, c]
    · rw [if_neg c, List.drop_eq_getElem_cons hi']
      simp [fl, c]
/-- Some bytes replaced. -/
theorem sWL (s d : ByteArray) (n : Nat) (h : 64 * n + d.size ≤ s.size) (hs : s.size ≤ 1048576) : spec_l2With.f s (64 * (n : Int)) d = some ⟨(s.data.toList.take (64 * n) ++ d.data.toList ++ s.data.toList.drop (64 * n + d.data.toList.length)).toArray⟩ := by
  have e1 : wrap64 (64 * (n : Int) + (d.size : Int)) = 64 * (n : Int) + (d.size : Int) := w64 (by omega) (by omega)
  have hd : d.data.toList.length = d.size := by simp
  have t1 : (64 * (n : Int)).toNat = 64 * n := by omega
  have t2 : (64 * (n : Int) + (d.size : Int)).toNat = 64 * n + d.size := by omega
  have z1 : (s.extract 0 (64 * n)).size = 64 * n := by rw [ByteArray.size_extract]; omega
  have z2 : (s.extract (64 * n + d.size) s.size).size = s.size - (64 * n + d.size) := by rw [ByteArray.size_extract]; omega
  unfold spec_l2With.f
  rw [e1, t1, t2, if_pos (by omega), if_pos (by omega), if_pos (by rw [z1]; omega), if_pos (by omega), if_pos (by omega), if_pos (by rw [ByteArray.size_append, z1, z2]; omega)]
  congr 1
  apply ByteArray.ext
  rw [hd]
  simp [ByteArray.data_append, ByteArray.data_extract]
  rw [List.take_of_length_le (by simp)]
def evictL (y : Int) : List S67 → List UInt8 → List S67 → List UInt8 × List S67
  | [], b, acc => (b, acc)
  | x :: xs, b, acc => if x.f0 = y then evictL y xs (layd b y.toNat x.f1.data.toList) acc else evictL y xs b (acc ++ [x])
theorem evict_cons (y : Int) (x : S67) (xs : List S67) (b : List UInt8) (acc : List S67) : evictL y (x :: xs) b acc = if x.f0 = y then evictL y xs (layd b y.toNat x.f1.data.toList) acc else evictL y xs b (acc ++ [x]) := rfl
theorem evictL_len (y : Int) : ∀ (l : List S67) (b : List UInt8) (acc : List S67), (evictL y l b acc).2.length ≤ acc.length + l.length
  | [], b, acc => Nat.le_refl _
  | x :: xs, b, acc => by
    unfold evictL
    split
    · refine Nat.le_trans (evictL_len y xs _ _) ?_; rw [List.length_cons]; omega
    · refine Nat.le_trans (evictL_len y xs _ _) ?_; rw [List.length_append, List.length_cons, List.length_cons, List.length_nil]; omega
theorem sEv_l (l : List S67) (y : Int) (s0 : ByteArray) (m : Nat) (hm : m ≤ 1048576) (hl : l.length ≤ 1048576) (hy : 0 ≤ y ∧ 64 * y + 64 ≤ (m : Int)) (ho : ∀ x ∈ l, okL m x) : ∀ (n i : Nat) (b : ByteArray) (acc : List S67), i + n = l.length → b.size = m → acc.length ≤ i → Ev (fun k => spec_l2Evict.l0 k y (i : Int) s0 l b acc) (⟨(evictL y (l.drop i) b.data.toList acc).1.toArray⟩, (evictL y (l.drop i) b.data.toList acc).2) := by
  intro n
  induction n with
  | zero =>
    intro i b acc hi hb ha
    rw [List.drop_of_length_le (by omega)]
    refine Ev.step (f := fun _ => some (b, acc)) (fun k => by simp only [spec_l2Evict.l0]; rw [if_neg (by omega)]) ?_
    unfold evictL
    exact Ev.now _
  | succ n ih =>
    intro i b acc hi hb ha
    have hi' : i < l.length := by omega
    have q1 : (i : Int) < (l.length : Int) := Int.ofNat_lt.2 hi'
    have q2 : 0 ≤ (i : Int) := Int.natCast_nonneg i
    have q3 : acc.length < 3518437208883 := Nat.lt_of_le_of_lt (Nat.le_trans ha (Nat.le_of_lt (Nat.lt_of_lt_of_le hi' hl))) (by decide)
    have q4 : acc.length ≤ i + 1 := Nat.le_succ_of_le ha
    have q5 : (i + 1) + n = l.length := by omega
    have q6 : ∀ x : S67, (acc ++ [x]).length ≤ i + 1 := fun x => by rw [List.length_append]; exact Nat.succ_le_succ ha
    obtain ⟨h1, h2, h3, h4⟩ := ho l[i] (by simp)
    obtain ⟨q, hq⟩ := Int.eq_ofNat_of_zero_le hy.1
    have e4 : wrap64 ((i : Int) + 1) = ((i + 1 : Nat) : Int) := by rw [w64 (by omega) (by omega)]; rfl
    have dl : l.drop i = l[i] :: l.drop (i + 1) := List.drop_eq_getElem_cons hi'
    have r := rd_nat l i hi'
    rw [dl]
    rw [evict_cons]
    by_cases c : l[i].f0 = y
    · rw [if_pos c]
      have z1 : (⟨(layd b.data.toList y.toNat l[i].f1.data.toList).toArray⟩ : ByteArray).size = m := by
        have := layd_len b.data.toList y.toNat l[i].f1.data.toList (by rw [dlen, dlen]; omega)
        rw [dlen, hb] at this; exact List.size_toArray.trans this
      refine Ev.step (f := fun k => spec_l2Evict.l0 k y ((i + 1 : Nat) : Int) s0 l ⟨(layd b.data.toList y.toNat l[i].f1.data.toList).toArray⟩ acc) (fun k => ?_) (ih (i + 1) _ acc q5 z1 q4)
      rw [spec_l2Evict.l0, if_pos q1, if_pos q2, r, if_pos c, w64 (n := 64 * y) (by omega) (by omega), e4]
      have e5 := sWL b l[i].f1 q (by omega) (by omega)
      rw [← hq] at e5
      rw [e5, Option.bind_some, show y.toNat = q by omega]
      rfl
    · rw [if_neg c]
      refine Ev.step (f := fun k => spec_l2Evict.l0 k y ((i + 1 : Nat) : Int) s0 l b (acc ++ [l[i]])) (fun k => ?_) (ih (i + 1) b (acc ++ [l[i]]) q5 hb (q6 _))
      rw [spec_l2Evict.l0, if_pos q1, if_pos q2, r, if_neg c, if_pos q3, e4]
/-- a reader of drawn bytes that is in order -/
def RdOk (l : List Int) (p : Int) : Prop := 0 ≤ p ∧ p ≤ (l.length : Int) ∧ (l.length : Int) ≤ 140737488351232 ∧ ∀ x ∈ l, 0 ≤ x ∧ x ≤ 255
theorem RdOk.start {l : List Int} (h1 : l.length * 1 ≤ 140737488351232) (h2 : ∀ x ∈ l, (Lit.int .u8 x).wf = true) : RdOk l 0 :=
  ⟨by omega, by omega, by omega, fun x hx => by
    have := h2 x hx
    simp [Lit.wf, IntKind.min, IntKind.max, IntKind.bits, IntKind.signed] at this
    omega⟩
theorem rd_mem {l : List Int} {i : Int} (h0 : 0 ≤ i) (h1 : i < (l.length : Int)) : rd l i ∈ l := by
  unfold rd
  rw [List.getD_eq_getElem?_getD, List.getElem?_eq_getElem (by omega : i.toNat < l.length)]
  exact List.getElem_mem _
theorem bits_u64 (op : BinOp) (x y : Int) : 0 ≤ Go.bits op .u64 x y ∧ Go.bits op .u64 x y < 18446744073709551616 := by
  unfold Go.bits; rw [u64]; omega
theorem wrap64_in (x : Int) : -9223372036854775808 ≤ wrap64 x ∧ wrap64 x ≤ 9223372036854775807 := by unfold wrap64; omega
theorem one4 (a b c d : UInt8) (i : Int) (h0 : 0 ≤ i) (h1 : i < 4) : (rdOf ByteArray.empty ([(⟨#[a]⟩ : ByteArray), (⟨#[b]⟩ : ByteArray), (⟨#[c]⟩ : ByteArray), (⟨#[d]⟩ : ByteArray)] : List ByteArray) i).size = 1 := by
  have : i = 0 ∨ i = 1 ∨ i = 2 ∨ i = 3 := by omega
  rcases this with rfl | rfl | rfl | rfl <;> rfl
theorem next_ok {l : List Int} {p : Int} (h : RdOk l p) : ∃ v p', spec_l1Rd_next.f l p = some (v, p') ∧ 0 ≤ v ∧ v ≤ 255 ∧ RdOk l p' := by
  obtain ⟨h0, h1, h2, h3⟩ := h
  unfold spec_l1Rd_next.f
  by_cases c : p ≥ (l.length : Int)
  · exact ⟨0, p, by rw [if_pos c], by omega, by omega, h0, h1, h2, h3⟩
  · have hm := h3 _ (rd_mem h0 (by omega : p < (l.length : Int)))
    refine ⟨rd l p, p + 1, ?_, hm.1, hm.2, by omega, by omega, h2, h3⟩
    rw [if_neg c, w64 (n := p + 1) (by omega) (by omega), w64 (n := p + 1 - 1) (by omega) (by omega), if_pos (by omega), if_pos (by omega), show p + 1 - 1 = p by omega, w64 (by omega) (by omega)]
theorem below_ok {l : List Int} {p : Int} (h : RdOk l p) (n : Int) : ∃ v p', spec_l1Rd_below.f l p n = some (v, p') ∧ 0 ≤ v ∧ (n ≤ 1 → v = 0) ∧ (1 < n → v < n) ∧ RdOk l p' := by
  unfold spec_l1Rd_below.f
  by_cases c : n ≤ 1
  · exact ⟨0, p, by rw [if_pos c], by omega, fun _ => rfl, fun _ => by omega, h⟩
  · rw [if_neg c]
    by_cases c2 : n ≤ 256
    · obtain ⟨v, p1, e, v0, v1, h'⟩ := next_ok h
      refine ⟨Int.tmod v n, p1, by rw [if_pos c2, e]; simp only [Option.bind_some]; rw [if_neg (by omega)], ?_, by omega, fun _ => ?_, h'⟩
      · rw [Int.tmod_eq_emod_of_nonneg v0]; exact Int.emod_nonneg _ (by omega)
      · rw [Int.tmod_eq_emod_of_nonneg v0]; exact Int.emod_lt_of_pos _ (by omega)
    · obtain ⟨v, p1, e, v0, v1, h'⟩ := next_ok h
      obtain ⟨u, p2, e2, u0, u1, h2⟩ := next_ok h'
      have e3 : wrap64 (wrap64 (v * 256) + u) = v * 256 + u := by rw [w64 (n := v * 256) (by omega) (by omega), w64 (by omega) (by omega)]
      refine ⟨Int.tmod (v * 256 + u) n, p2, by rw [if_neg c2, e]; simp only [Option.bind_some]; rw [e2]; simp only [Option.bind_some]; rw [if_neg (by omega), e3], ?_, by omega, fun _ => ?_, h2⟩
      · rw [Int.tmod_eq_emod_of_nonneg (by omega)]; exact Int.emod_nonneg _ (by omega)
      · rw [Int.tmod_eq_emod_of_nonneg (by omega)]; exact Int.emod_lt_of_pos _ (by omega)
theorem once_ok {l : List Int} {p : Int} (h : RdOk l p) (n : Int) : ∃ b p', spec_l1Rd_once.f l p n = some (b, p') ∧ RdOk l p' := by
  obtain ⟨v, p1, e, _, _, _, h'⟩ := below_ok h n
  exact ⟨_, p1, by unfold spec_l1Rd_once.f; rw [e]; rfl, h'⟩
theorem word_in {l : List Int} : ∀ (d j : Nat) (x p : Int), j + d = 8 → 0 ≤ x → x < 18446744073709551616 → RdOk l p → ∃ v p', Ev (fun k => spec_l1Rd_word.l0 k x j l p) (v, p') ∧ 0 ≤ v ∧ v < 18446744073709551616 ∧ RdOk l p' := by
  intro d
  induction d with
  | zero =>
    intro j x p hj h0 h1 h
    exact ⟨x, p, Ev.step (f := fun _ => some (x, p)) (fun k => by simp only [spec_l1Rd_word.l0]; rw [if_neg (by omega)]) (Ev.now _), h0, h1, h⟩
  | succ d ih =>
    intro j x p hj h0 h1 h
    obtain ⟨u, p1, e, u0, u1, h'⟩ := next_ok h
    have hb := bits_u64 .or (IntKind.u64.wrap (x * 256)) (IntKind.u64.wrap u)
    obtain ⟨v, p2, e2, v0, v1, h2⟩ := ih (j + 1) _ p1 (by omega) hb.1 hb.2 h'
    refine ⟨v, p2, Ev.step (fun k => ?_) e2, v0, v1, h2⟩
    simp only [spec_l1Rd_word.l0]; rw [if_pos (by omega), e]; simp only [Option.bind_some]; rw [w64 (n := (j : Int) + 1) (by omega) (by omega)]; rfl
theorem word_ok {l : List Int} {p : Int} (h : RdOk l p) : ∃ v p', Ev (fun k => spec_l1Rd_word.f k l p) (v, p') ∧ 0 ≤ v ∧ v < 18446744073709551616 ∧ RdOk l p' := by
  obtain ⟨v, p', e, h⟩ := word_in 8 0 0 p (by omega) (by omega) (by omega) h
  exact ⟨v, p', Ev.congr (fun k => rfl) e, h⟩
theorem near_ok {l : List Int} {p : Int} (h : RdOk l p) (lo hi : Int) (hl : -9223372036854775808 ≤ lo ∧ lo ≤ 9223372036854775807) (hh : -9223372036854775808 ≤ hi ∧ hi ≤ 9223372036854775807) (hd : hi - lo < 18446744073709551615) : ∃ v p', Ev (fun k => spec_l1Rd_near.f k l p lo hi) (v, p') ∧ -9223372036854775808 ≤ v ∧ v ≤ 9223372036854775807 ∧ RdOk l p' := by
  unfold spec_l1Rd_near.f
  obtain ⟨v, p1, e, v0, _, v1, h1⟩ := below_ok h 8
  rw [e]; simp only [Option.bind_some]
  by_cases c0 : v = 0
  · simp only [if_pos c0]; exact ⟨_, p1, Ev.now _, hl.1, hl.2, h1⟩
  · simp only [if_neg c0]
    by_cases c1 : v = 1
    · simp only [if_pos c1]; exact ⟨_, p1, Ev.now _, hh.1, hh.2, h1⟩
    · simp only [if_neg c1]
      by_cases c2 : hi < lo
      · simp only [if_pos c2]; exact ⟨_, p1, Ev.now _, hl.1, hl.2, h1⟩
      · simp only [if_neg c2]
        obtain ⟨u, p2, e2, u0, u1, h2⟩ := word_ok h1
        have hz : ¬ (IntKind.u64.wrap (wrap64 (wrap64 (hi - lo) + 1)) = 0) := by rw [u64]; unfold wrap64; omega
        have hw := wrap64_in (lo + wrap64 (Int.tmod (u / 2) (IntKind.u64.wrap (wrap64 (wrap64 (hi - lo) + 1)))))
        refine ⟨_, p2, ?_, hw.1, hw.2, h2⟩
        simp only [if_neg hz]
        exact Ev.bind (f := fun _ (b : Int × Int) => some (wrap64 (lo + wrap64 (Int.tmod (b.1 / 2) (IntKind.u64.wrap (wrap64 (wrap64 (hi - lo) + 1))))), b.2)) e2 (Ev.now _)
theorem off_ok {l : List Int} {p : Int} (h : RdOk l p) (lo hi : Int) (hl : -9223372036854775808 ≤ lo ∧ lo ≤ 9223372036854775807) (hh : -9223372036854775808 ≤ hi ∧ hi ≤ 9223372036854775807) (hd : hi - lo < 18446744073709551615) : ∃ v p', Ev (fun k => spec_l1Rd_off.f k l p lo hi) (v, p') ∧ -9223372036854775808 ≤ v ∧ v ≤ 9223372036854775807 ∧ RdOk l p' := by
  unfold spec_l1Rd_off.f
  obtain ⟨b, p1, e, h1⟩ := once_ok h 24
  rw [e]; simp only [Option.bind_some]
  cases b with
  | true =>
    simp only [if_true]
    obtain ⟨u, p2, e2, u0, _, u1, h2⟩ := below_ok h1 4
    have hu := u1 (by omega)
    simp only [e2, Option.bind_some]
    rw [if_pos u0, if_pos (by simpa using hu)]
    have hw := wrap64_in (lo - 1)
    have hw2 := wrap64_in (hi + 1)
    refine ⟨_, p2, Ev.now _, ?_, ?_, h2⟩
    all_goals
      have : u = 0 ∨ u = 1 ∨ u = 2 ∨ u = 3 := by omega
      rcases this with rfl | rfl | rfl | rfl <;> simp [rd] <;> omega
  | false =>
    simp only [Bool.false_eq_true, if_false]
    obtain ⟨u, p2, e2, u0, u1, h2⟩ := near_ok h1 lo hi hl hh hd
    exact ⟨u, p2, Ev.bind (f := fun _ (b : Int × Int) => some (b.1, b.2)) e2 (Ev.now _), u0, u1, h2⟩
theorem bytes_in {l : List Int} : ∀ (d : Nat) (xs : List Int) (p : Int), xs.length + d ≤ 1000000 → RdOk l p → ∃ s p', Ev (fun k => spec_l1Rd_bytes.l0 k xs d l p) (s, p') ∧ s.size = xs.length + d ∧ RdOk l p' := by
  intro d
  induction d with
  | zero =>
    intro xs p hx h
    exact ⟨strOfNums xs, p, Ev.step (f := fun _ => some (strOfNums xs, p)) (fun k => by simp only [spec_l1Rd_bytes.l0]; rw [if_neg (by omega)]) (Ev.now _), by rw [strOfNums_size]; omega, h⟩
  | succ d ih =>
    intro xs p hx h
    obtain ⟨v, p1, e, v0, _, v1, h1⟩ := below_ok h 256
    obtain ⟨s, p2, e2, hs, h2⟩ := ih (xs ++ [v % 256]) p1 (by simp; omega) h1
    refine ⟨s, p2, Ev.step (fun k => ?_) e2, by rw [hs]; simp; omega, h2⟩
    simp only [spec_l1Rd_bytes.l0]; rw [if_pos (by omega), e]; simp only [Option.bind_some]; rw [if_pos (by omega), w64 (by omega) (by omega), show ((d + 1 : Nat) : Int) - 1 = (d : Int) by omega]
theorem bytes_ok {l : List Int} {p : Int} (h : RdOk l p) (m : Int) (h0 : 0 ≤ m) (h1 : m ≤ 100000) : ∃ s p', Ev (fun k => spec_l1Rd_bytes.f k l p m) (s, p') ∧ (s.size : Int) ≤ m ∧ RdOk l p' := by
  unfold spec_l1Rd_bytes.f
  rw [w64 (n := m + 1) (by omega) (by omega)]
  obtain ⟨v, p1, e, v0, va, vb, h'⟩ := below_ok h (m + 1)
  have hv : v ≤ m := by
    by_cases c : 1 < m + 1
    · have := vb c; omega
    · have := va (by omega); omega
  obtain ⟨s, p2, e2, hs, h2⟩ := bytes_in v.toNat [] p1 (by simp; omega) h'
  refine ⟨s, p2, ?_, by rw [hs]; simp; omega, h2⟩
  rw [e]; simp only [Option.bind_some]
  rw [show ((v.toNat : Nat) : Int) = v by omega] at e2
  exact e2
/-- so many zero bytes -/
def zs (n : Nat) : ByteArray := strOfNums (List.replicate n 0)
theorem zs_size (n : Nat) : (zs n).size = n := by rw [zs, strOfNums_size]; simp
theorem sZeros (n : Nat) (h : n ≤ 281474976710656) : spec_l1Zeros.f (n : Int) = some (zs n) := by
  unfold spec_l1Zeros.f; rw [if_pos (by omega), if_pos (by omega)]; rfl
theorem size_ok {l : List Int} {p : Int} (h : RdOk l p) (m t : Int) (hm : 0 < m) (ht : 0 < t ∧ t ≤ 1000) : ∃ v p', spec_l1Rd_size.f l p m t = some (v, p') ∧ 1 ≤ v ∧ v ≤ t ∧ RdOk l p' := by
  unfold spec_l1Rd_size.f
  have hl := h.2.2.1
  have h1 : 0 ≤ (l.length : Int) / m := Int.ediv_nonneg (by omega) (by omega)
  have h2 : (l.length : Int) / m ≤ (l.length : Int) := Int.ediv_le_self _ (by omega)
  rw [if_neg (by omega), w64 (n := 1 + (wrap64 ((l.length : Int) / m))) (by rw [w64 (by omega) (by omega)]; omega) (by rw [w64 (by omega) (by omega)]; omega), w64 (n := (l.length : Int) / m) (by omega) (by omega)]
  by_cases c : 1 + (l.length : Int) / m > t
  · rw [if_pos c]
    obtain ⟨v, p1, e, v0, va, vb, h'⟩ := below_ok h t
    have : v ≤ t - 1 := by
      by_cases c2 : 1 < t
      · have := vb c2; omega
      · have := va (by omega); omega
    refine ⟨1 + v, p1, ?_, by omega, by omega, h'⟩
    rw [e, Option.bind_some, w64 (by omega) (by omega)]
  · rw [if_neg c]
    obtain ⟨v, p1, e, v0, va, vb, h'⟩ := below_ok h (1 + (l.length : Int) / m)
    have : v ≤ (l.length : Int) / m := by
      by_cases c2 : 1 < 1 + (l.length : Int) / m
      · have := vb c2; omega
      · have := va (by omega); omega
    refine ⟨1 + v, p1, ?_, by omega, by omega, h'⟩
    rw [e, Option.bind_some, w64 (by omega) (by omega)]
theorem hurt_ok {l : List Int} {p : Int} (h : RdOk l p) (s : ByteArray) (hs : s.size ≤ 4611686018427387904) : ∃ t p', spec_l1Rd_hurt.f l p s = some (t, p') ∧ t.size ≤ s.size + 1 ∧ RdOk l p' := by
  unfold spec_l1Rd_hurt.f
  obtain ⟨v, p1, e, v0, _, v1, h1⟩ := below_ok h 6
  rw [e]; simp only [Option.bind_some]
  by_cases c1 : v = 1
  · rw [if_pos c1, w64 (n := (s.size : Int) + 1) (by omega) (by omega)]
    obtain ⟨u, p2, e2, u0, ua, ub, h2⟩ := below_ok h1 ((s.size : Int) + 1)
    have hu : u ≤ s.size := by
      by_cases c : 1 < (s.size : Int) + 1
      · have := ub c; omega
      · have := ua (by omega); omega
    rw [e2]; simp only [Option.bind_some]
    rw [if_pos u0, if_pos hu]
    exact ⟨_, p2, rfl, by rw [ByteArray.size_extract]; omega, h2⟩
  · rw [if_neg c1]
    by_cases c2 : v = 2
    · rw [if_pos c2]
      by_cases c3 : (s.size : Int) > 0
      · rw [if_pos c3]
        obtain ⟨u, p2, e2, u0, ua, ub, h2⟩ := below_ok h1 (s.size : Int)
        have hu : u < s.size := by
          by_cases c : 1 < (s.size : Int)
          · exact ub c
          · have := ua (by omega); omega
        rw [e2]; simp only [Option.bind_some]
        rw [if_pos u0, if_pos (by omega)]
        obtain ⟨q, p3, e3, q0, qa, qb, h3⟩ := below_ok h2 4
        have hq := qb (by omega)
        have hz := one4 0 55 255 32 q q0 hq
        rw [e3]; simp only [Option.bind_some]
        rw [if_pos q0, if_pos (by simpa using hq), if_pos (by rw [hz, ByteArray.size_extract]; omega), w64 (n := u + 1) (by omega) (by omega), if_pos (by omega), if_pos (by omega), if_pos (by rw [ByteArray.size_append, hz, ByteArray.size_extract, ByteArray.size_extract]; omega)]
        exact ⟨_, p3, rfl, by rw [ByteArray.size_append, ByteArray.size_append, hz, ByteArray.size_extract, ByteArray.size_extract]; omega, h3⟩
      · rw [if_neg c3]; exact ⟨_, p1, rfl, by omega, h1⟩
    · rw [if_neg c2]
      by_cases c3 : v = 3
      · rw [if_pos c3]
        obtain ⟨q, p3, e3, q0, qa, qb, h3⟩ := below_ok h1 4
        have hq := qb (by omega)
        have hz := one4 0 49 10 32 q q0 hq
        rw [e3]; simp only [Option.bind_some]
        rw [if_pos q0, if_pos (by simpa using hq), if_pos (by rw [hz]; omega)]
        exact ⟨_, p3, rfl, by rw [ByteArray.size_append, hz]; omega, h3⟩
      · rw [if_neg c3]; exact ⟨_, p1, rfl, by omega, h1⟩
theorem fence_ok (m : Nat) : ∀ (l : List S67) (b : List UInt8) (acc : List S67), b.length = m → (∀ x ∈ l, okL m x) → (∀ x ∈ acc, okL m x) → (fenceL l b acc).1.length = m ∧ ∀ x ∈ (fenceL l b acc).2, okL m x
  | [], b, acc, hb, _, ha => ⟨hb, ha⟩
  | x :: xs, b, acc, hb, hl, ha => by
    obtain ⟨h1, h2, h3, h4⟩ := hl x (by simp)
    have k2 : (layd b x.f0.toNat x.f2.data.toList).length = m := by rw [layd_len _ _ _ (by rw [dlen]; omega), hb]
    unfold fenceL
    refine fence_ok m xs _ _ k2 (fun y hy => hl y (by simp [hy])) (fun y hy => ?_)
    by_cases c : x.f2.toList = x.f1.toList
    · rw [if_pos c] at hy; exact ha y hy
    · rw [if_neg c] at hy
      rcases List.mem_append.1 hy with h | h
      · exact ha y h
      · rw [List.mem_singleton.1 h]; exact ⟨h1, h2, h3, Or.inr rfl⟩
theorem evict_ok (m : Nat) (y : Int) (hy : 0 ≤ y ∧ 64 * y + 64 ≤ (m : Int)) : ∀ (l : List S67) (b : List UInt8) (acc : List S67), b.length = m → (∀ x ∈ l, okL m x) → (∀ x ∈ acc, okL m x) → (evictL y l b acc).1.length = m ∧ ∀ x ∈ (evictL y l b acc).2, okL m x
  | [], b, acc, hb, _, ha => ⟨hb, ha⟩
  | x :: xs, b, acc, hb, hl, ha => by
    have hx := hl x (by simp)
    rw [evict_cons]
    by_cases c : x.f0 = y
    · rw [if_pos c]
      refine evict_ok m y hy xs _ _ ?_ (fun z hz => hl z (by simp [hz])) ha
      rw [layd_len _ _ _ (by rw [dlen, hx.2.2.1]; omega), hb]
    · rw [if_neg c]
      refine evict_ok m y hy xs _ _ hb (fun z hz => hl z (by simp [hz])) (fun z hz => ?_)
      rcases List.mem_append.1 hz with h | h
      · exact ha z h
      · rw [List.mem_singleton.1 h]; exact hx
theorem flush_ok (m : Nat) (y : Int) (l : List S67) (hl : ∀ x ∈ l, okL m x) : ∀ x ∈ l.map (fl y), okL m x := by
  intro x hx
  obtain ⟨z, hz, rfl⟩ := List.mem_map.1 hx
  have h := hl z hz
  unfold fl
  by_cases c : z.f0 = y
  · rw [if_pos c]; exact ⟨h.1, h.2.1, h.2.2.1, Or.inl h.2.2.1⟩
  · rw [if_neg c]; exact h
theorem tbl4 (i : Int) (h0 : 0 ≤ i) (h1 : i < 4) : (rdOf ByteArray.empty ([(⟨#[97]⟩ : ByteArray), (⟨#[98, 99]⟩ : ByteArray), (⟨#[0]⟩ : ByteArray), (⟨#[120, 121, 122]⟩ : ByteArray)] : List ByteArray) i).size ≤ 3 := by
  have : i = 0 ∨ i = 1 ∨ i = 2 ∨ i = 3 := by omega
  rcases this with rfl | rfl | rfl | rfl <;> decide
/-- how the draw ends -/
theorem dev_end {L : List Int} {p : Int} (h : RdOk L p) (x3 s : ByteArray) (l : List S67) (hs : s.size ≤ 1000) (hl : l.length ≤ 100) : ∃ s' l' p', Ev (fun k => spec_l1Rd_device.l1 k x3 0 L p s l) (s', l', p') ∧ s'.size ≤ 1000000 ∧ l'.length ≤ 1000 ∧ RdOk L p' := by
  obtain ⟨v, p1, e, v0, va, vb, h1⟩ := below_ok h 30
  have st : ∀ {r : ByteArray × (List S67) × Int}, Ev (fun k => if v = 0 then ((spec_l1Rd_hurt.f L p1 s).bind fun bt287 => (some (bt287.1, l, bt287.2))) else (if v = 1 then ((spec_l1Rd_off.f k L p1 0 5).bind fun bt289 => ((spec_l1Zeros.f 64).bind fun t291 => (if l.length < 3518437208883 then (some (s, (l ++ [(⟨bt289.1, t291, (⟨#[]⟩ : ByteArray)⟩ : S67)]), bt289.2)) else (none)))) else (if v = 2 then (if (l.length : Int) > 0 then (if 0 < (l.length : Int) then (some (s, (l.set (0 : Int).toNat (⟨(rd_T67 l 0).f0, (rd_T67 l 0).f1, (⟨#[120]⟩ : ByteArray)⟩ : S67)), p1)) else (none)) else (some (s, l, p1))) else (if v = 3 then ((spec_l1Rd_below.f L p1 3).bind fun bt296 => ((spec_l1Zeros.f (wrap64 (64 * (wrap64 (127 + bt296.1))))).bind fun t298 => (some (t298, ([] : List (S67)), bt296.2)))) else (some (s, l, p1)))))) r → Ev (fun k => spec_l1Rd_device.l1 k x3 0 L p s l) r := fun hr => Ev.step (fun k => by
    rw [spec_l1Rd_device.l1, if_neg (by decide), e, Option.bind_some]) hr
  by_cases c0 : v = 0
  · obtain ⟨t, p2, e2, ht, h2⟩ := hurt_ok h1 s (by omega)
    refine ⟨t, l, p2, st ?_, by omega, by omega, h2⟩
    simp only [if_pos c0, e2, Option.bind_some]
    exact Ev.now _
  · by_cases c1 : v = 1
    · obtain ⟨u, p2, e2, u0, u1, h2⟩ := off_ok h1 0 5 (by omega) (by omega) (by omega)
      refine ⟨s, l ++ [⟨u, zs 64, (⟨#[]⟩ : ByteArray)⟩], p2, st ?_, by omega, by simp; omega, h2⟩
      simp only [if_neg c0, if_pos c1]
      refine evThen e2 (fun k => rfl) (evIs fun k => ?_)
      rw [show spec_l1Zeros.f 64 = some (zs 64) from sZeros 64 (by omega), Option.bind_some, if_pos (by omega)]
    · by_cases c2 : v = 2
      · by_cases c3 : (l.length : Int) > 0
        · refine ⟨s, (l.set (0 : Int).toNat (⟨(rd_T67 l 0).f0, (rd_T67 l 0).f1, (⟨#[120]⟩ : ByteArray)⟩ : S67)), p1, st ?_, by omega, ?_, h1⟩
          · simp only [if_neg c0, if_neg c1, if_pos c2, if_pos c3, if_pos (show 0 < (l.length : Int) from c3)]
            exact Ev.now _
          · rw [List.length_set]; omega
        · refine ⟨s, l, p1, st ?_, by omega, by omega, h1⟩
          simp only [if_neg c0, if_neg c1, if_pos c2, if_neg c3]
          exact Ev.now _
      · by_cases c3 : v = 3
        · obtain ⟨u, p2, e2, u0, ua, ub, h2⟩ := below_ok h1 3
          have ub' := ub (by omega)
          have ez : spec_l1Zeros.f (wrap64 (64 * (wrap64 (127 + u)))) = some (zs (64 * (127 + u)).toNat) := by
            rw [w64 (n := 127 + u) (by omega) (by omega), w64 (n := 64 * (127 + u)) (by omega) (by omega)]
            have := sZeros (64 * (127 + u)).toNat (by omega)
            rw [show (((64 * (127 + u)).toNat : Nat) : Int) = 64 * (127 + u) by omega] at this
            exact this
          refine ⟨zs (64 * (127 + u)).toNat, [], p2, st ?_, by rw [zs_size]; omega, by simp, h2⟩
          simp only [if_neg c0, if_neg c1, if_neg c2, if_pos c3, e2, Option.bind_some, ez]
          exact Ev.now _
        · refine ⟨s, l, p1, st ?_, by omega, by omega, h1⟩
          simp only [if_neg c0, if_neg c1, if_neg c2, if_neg c3]
          exact Ev.now _
theorem dev_work {L : List Int} (x3 : ByteArray) (n : Nat) (hn : 1 ≤ n ∧ n ≤ 5) (h3 : x3.size = 64 * n) : ∀ (j : Nat) (p : Int) (s : ByteArray) (l : List S67), RdOk L p → s.size = 64 * n → (∀ x ∈ l, okL (64 * n) x) → l.length + j ≤ 50 →
    ∃ s' l' p', Ev (fun k => spec_l1Rd_device.l1 k x3 (j : Int) L p s l) (s', l', p') ∧ s'.size ≤ 1000000 ∧ l'.length ≤ 1000 ∧ RdOk L p' := by
  intro j
  induction j with
  | zero => intro p s l h hs hl hj; exact dev_end h x3 s l (by omega) (by omega)
  | succ j ih =>
    intro p s l h hs hl hj
    obtain ⟨y, p1, e1, y0, ya, yb, h1⟩ := below_ok h (n : Int)
    have yn : y + 1 ≤ (n : Int) := by
      by_cases c : 1 < (n : Int)
      · have := yb c; omega
      · have := ya (by omega); omega
    obtain ⟨v, p2, e2, v0, va, vb, h2⟩ := below_ok h1 7
    have ew : wrap64 ((x3.size : Int) / 64) = (n : Int) := by rw [w64 (by omega) (by omega)]; omega
    have ej : wrap64 (((j + 1 : Nat) : Int) - 1) = (j : Int) := by rw [w64 (by omega) (by omega)]; omega
    have jp : ((j + 1 : Nat) : Int) > 0 := by omega
    have st : ∀ {r : ByteArray × (List S67) × Int}, Ev (fun k => if v = 0 then ((spec_l2Fence.f s l).bind fun bt261 => (spec_l1Rd_device.l1 k x3 (j : Int) L p2 bt261.1 bt261.2)) else (if v = 1 then ((spec_l2Evict.f k s l y).bind fun bt265 => (spec_l1Rd_device.l1 k x3 (j : Int) L p2 bt265.1 bt265.2)) else (if v = 2 then (spec_l1Rd_device.j2 k x3 ((j + 1 : Nat) : Int) y (v == 2) L p2 s l) else (spec_l1Rd_device.j2 k x3 ((j + 1 : Nat) : Int) y (v == 3) L p2 s l)))) r → Ev (fun k => spec_l1Rd_device.l1 k x3 ((j + 1 : Nat) : Int) L p s l) r := fun hr => Ev.step (fun k => by
      rw [spec_l1Rd_device.l1, if_pos jp, ew, e1, Option.bind_some, e2, Option.bind_some, ej]) hr
    by_cases c0 : v = 0
    · have ef : spec_l2Fence.f s l = some (⟨(fenceL l s.data.toList []).1.toArray⟩, (fenceL l s.data.toList []).2) := by
        unfold spec_l2Fence.f
        rw [if_pos (by omega), sFe_l l s.data.toList [] (fun x hx => by rw [dlen, hs]; exact hl x hx) (by simp; omega)]
        rfl
      obtain ⟨f1, f2⟩ := fence_ok (64 * n) l s.data.toList [] (by rw [dlen, hs]) hl (fun x hx => by cases hx)
      have f3 := fenceL_len l s.data.toList []
      obtain ⟨s', l', p', e, r1, r2, r3⟩ := ih p2 ⟨(fenceL l s.data.toList []).1.toArray⟩ (fenceL l s.data.toList []).2 h2 (List.size_toArray.trans f1) f2 (by simp at f3; omega)
      refine ⟨s', l', p', st ?_, r1, r2, r3⟩
      simp only [if_pos c0, ef, Option.bind_some]
      exact e
    · by_cases c1 : v = 1
      · have g := sEv_l l y s (64 * n) (by omega) (by omega) ⟨y0, by omega⟩ hl l.length 0 s [] (by omega) hs (by simp)
        obtain ⟨f1, f2⟩ := evict_ok (64 * n) y ⟨y0, by omega⟩ l s.data.toList [] (by rw [dlen, hs]) hl (fun x hx => by cases hx)
        have f3 := evictL_len y l s.data.toList []
        obtain ⟨s', l', p', e, r1, r2, r3⟩ := ih p2 ⟨(evictL y l s.data.toList []).1.toArray⟩ (evictL y l s.data.toList []).2 h2 (List.size_toArray.trans f1) f2 (by simp at f3; omega)
        refine ⟨s', l', p', st ?_, r1, r2, r3⟩
        simp only [if_neg c0, if_pos c1]
        refine evThen (g := fun k => spec_l2Evict.f k s l y) (Ev.congr (fun k => ?_) g) (fun k => rfl) e
        unfold spec_l2Evict.f
        rfl
      · have stf : ∀ {r : ByteArray × (List S67) × Int}, Ev (fun k => (spec_l2Flush.f k s l y).bind fun bt269 => (spec_l1Rd_device.l1 k x3 (j : Int) L p2 bt269.1 bt269.2)) r → Ev (fun k => spec_l1Rd_device.j2 k x3 ((j + 1 : Nat) : Int) y true L p2 s l) r := fun hr => Ev.step (fun k => by rw [spec_l1Rd_device.j2, if_pos rfl, ej]) hr
        have flu : ∃ s' l' p', Ev (fun k => spec_l1Rd_device.j2 k x3 ((j + 1 : Nat) : Int) y true L p2 s l) (s', l', p') ∧ s'.size ≤ 1000000 ∧ l'.length ≤ 1000 ∧ RdOk L p' := by
          obtain ⟨s', l', p', e, r1, r2, r3⟩ := ih p2 s (l.map (fl y)) h2 hs (flush_ok _ y l hl) (by rw [List.length_map]; omega)
          refine ⟨s', l', p', stf ?_, r1, r2, r3⟩
          have g := sFl_l s l y (by omega) l.length 0 (by omega)
          refine evThen (g := fun k => spec_l2Flush.f k s l y) (a := (s, l.map (fl y))) (Ev.congr (fun k => ?_) g) (fun k => rfl) e
          unfold spec_l2Flush.f spec_l2Copy.f
          simp only [Option.bind_some]
          rw [if_pos (by simp; omega)]
          simp
        by_cases c2 : v = 2
        · obtain ⟨s', l', p', e, r⟩ := flu
          refine ⟨s', l', p', st ?_, r⟩
          simp only [if_neg c0, if_neg c1, if_pos c2, show (v == 2) = true from by rw [c2]; rfl]
          exact e
        · by_cases c3 : v = 3
          · obtain ⟨s', l', p', e, r⟩ := flu
            refine ⟨s', l', p', st ?_, r⟩
            simp only [if_neg c0, if_neg c1, if_neg c2, show (v == 3) = true from by rw [c3]; rfl]
            exact e
          · obtain ⟨o, p3, e3, o0, oa, ob, h3'⟩ := below_ok h2 60
            have ob' := ob (by omega)
            obtain ⟨i, p4, e4, i0, ia, ib, h4⟩ := below_ok h3' 4
            have ib' := ib (by omega)
            obtain ⟨q, hq⟩ := Int.eq_ofNat_of_zero_le o0
            have ht := tbl4 i i0 ib'
            generalize hT : (rdOf ByteArray.empty ([(⟨#[97]⟩ : ByteArray), (⟨#[98, 99]⟩ : ByteArray), (⟨#[0]⟩ : ByteArray), (⟨#[120, 121, 122]⟩ : ByteArray)] : List ByteArray) i) = T at ht
            have g := sSt l s y q T (by omega) (by omega) y0 (by omega) (by omega) (by omega) (fun x hx _ => (hl x hx).2.2.1)
            have f3 := store_len s y q T l false []
            have f2 := store_ok s y q T y0 (by omega) (by omega) l false [] (by rw [hs]; exact hl) (fun x hx => by cases hx)
            rw [hs] at f2
            obtain ⟨s', l', p', e, r1, r2, r3⟩ := ih p4 s (storeL s y q T false l []) h4 hs f2 (by simp at f3; omega)
            refine ⟨s', l', p', st ?_, r1, r2, r3⟩
            simp only [if_neg c0, if_neg c1, if_neg c2, show (v == 3) = false from by rw [beq_eq_false_iff_ne]; exact c3]
            refine Ev.step (f := fun k => (spec_l2Store.f k s l (64 * y + (q : Int)) T).bind fun bt281 => (spec_l1Rd_device.l1 k x3 (j : Int) L p4 bt281.1 bt281.2)) (fun k => ?_) (evThen g (fun k => rfl) e)
            rw [spec_l1Rd_device.j2, if_neg (by decide), e3, Option.bind_some, Option.bind_some, e4, Option.bind_some, if_pos i0, if_pos (by exact ib'), hT, ej, w64 (n := 64 * y) (by omega) (by omega), hq, w64 (n := 64 * y + _) (by omega) (by omega)]
theorem dev_init {L : List Int} : ∀ (j : Nat) (n : Nat) (p : Int) (x3 : ByteArray), RdOk L p → x3.size = 64 * n → 1 ≤ n + j → n + j ≤ 5 →
    ∃ s' l' p', Ev (fun k => spec_l1Rd_device.l0 k x3 (j : Int) L p) (s', l', p') ∧ s'.size ≤ 1000000 ∧ l'.length ≤ 1000 ∧ RdOk L p' := by
  intro j
  induction j with
  | zero =>
    intro n p x3 h hx h1 h5
    obtain ⟨v, p1, e, v0, v1, hp⟩ := size_ok h 4 14 (by omega) (by omega)
    obtain ⟨s', l', p', e2, r⟩ := dev_work (L := L) x3 n (by omega) hx v.toNat p1 x3 [] hp hx (fun x hx => by cases hx) (by simp; omega)
    rw [show ((v.toNat : Nat) : Int) = v by omega] at e2
    exact ⟨s', l', p', Ev.step (fun k => by rw [spec_l1Rd_device.l0, if_neg (by decide), e, Option.bind_some]) e2, r⟩
  | succ j ih =>
    intro n p x3 h hx h1 h5
    obtain ⟨v, p1, e, v0, va, vb, hp⟩ := below_ok h 40
    have vb' := vb (by omega)
    obtain ⟨t, p2, e2, ht, hp2⟩ := bytes_ok hp 20 (by omega) (by omega)
    obtain ⟨q, hq⟩ := Int.eq_ofNat_of_zero_le v0
    have ew : spec_l2With.f (zs 64) v t = some (withP (zs 64) q t) := by rw [hq]; exact sWith (zs 64) q t (by rw [zs_size]; omega) (by rw [zs_size]; omega)
    have hz : (withP (zs 64) q t).size = 64 := by rw [withP_size _ _ _ (by rw [zs_size]; omega), zs_size]
    obtain ⟨s', l', p', e3, r⟩ := ih (n + 1) p2 (x3 ++ withP (zs 64) q t) hp2 (by rw [ByteArray.size_append, hz]; omega) (by omega) (by omega)
    have ej : wrap64 (((j + 1 : Nat) : Int) - 1) = (j : Int) := by rw [w64 (by omega) (by omega)]; omega
    have jp : ((j + 1 : Nat) : Int) > 0 := by omega
    refine ⟨s', l', p', Ev.step (f := fun k => (spec_l1Rd_bytes.f k L p1 20).bind fun bt251 => ((spec_l2With.f (zs 64) v bt251.1).bind fun t253 => (if x3.size + t253.size ≤ 9223372036854775807 then (spec_l1Rd_device.l0 k (x3 ++ t253) (j : Int) L bt251.2) else (none)))) (fun k => ?_) (evThen e2 (fun k => rfl) ?_), r⟩
    · rw [spec_l1Rd_device.l0, if_pos jp, show spec_l1Zeros.f 64 = some (zs 64) from sZeros 64 (by omega), Option.bind_some, e, Option.bind_some, ej]
    · simp only [ew, Option.bind_some]
      refine Ev.congr (fun k => ?_) e3
      rw [if_pos (by rw [hz]; omega)]
theorem device_ok {L : List Int} {p : Int} (h : RdOk L p) : ∃ s l p', Ev (fun k => spec_l1Rd_device.f k L p) (s, l, p') ∧ s.size ≤ 1000000 ∧ l.length ≤ 1000 ∧ RdOk L p' := by
  obtain ⟨v, p1, e, v0, va, vb, h1⟩ := below_ok h 5
  have vb' := vb (by omega)
  obtain ⟨s, l, p', e2, r⟩ := dev_init (L := L) (1 + v).toNat 0 p1 (⟨#[]⟩ : ByteArray) h1 rfl (by omega) (by omega)
  refine ⟨s, l, p', Ev.congr (fun k => ?_) e2, r⟩
  unfold spec_l1Rd_device.f
  rw [e, Option.bind_some, w64 (n := 1 + v) (by omega) (by omega), show (((1 + v).toNat : Nat) : Int) = 1 + v by omega]
theorem drawSt (l : List Int) (h1 : l.length * 1 ≤ 140737488351232) (h2 : ∀ x ∈ l, (Lit.int .u8 x).wf = true) : ∃ s q a t, Ev (fun k => spec_DrawStore.f k l) (s, q, a, t) ∧ s.size ≤ 1000000 ∧ q.length ≤ 1000 ∧ t.size ≤ 12 ∧ (-9223372036854775808 ≤ a ∧ a ≤ 9223372036854775807) := by
  obtain ⟨s, q, p1, e, a, b, h⟩ := device_ok (RdOk.start h1 h2)
  obtain ⟨n, p2, e2, n0, n1, h'⟩ := off_ok h 0 (s.size : Int) (by omega) (by omega) (by omega)
  obtain ⟨t, p3, e3, ht, _⟩ := bytes_ok h' 12 (by omega) (by omega)
  refine ⟨s, q, n, t, ?_, a, b, by omega, by omega⟩
  unfold spec_DrawStore.f spec_l1Open.f
  simp only [Option.bind_some]
  exact evThen e (fun k => rfl) (evThen e2 (fun k => rfl) (evThen e3 (fun k => rfl) (Ev.now _)))
def gS (i : Nat) (a : List UInt8) (x : S67) : List UInt8 := if x.f0 = (i : Int) then x.f1.data.toList else a
theorem seenB_eq (b : List UInt8) (l : List S67) (i : Nat) : seenB b l i = l.foldl (gS i) (blk b i) := rfl
theorem gS_no (l : List S67) (i : Nat) (h : ∀ x ∈ l, x.f0 ≠ (i : Int)) (a : List UInt8) : l.foldl (gS i) a = a := foldl_no l (i : Int) h a
def putA (S : List UInt8) (a : Nat) (t : List UInt8) : List UInt8 := S.take a ++ t ++ S.drop (a + t.length)
theorem putA_len (S : List UInt8) (a : Nat) (t : List UInt8) (h : a + t.length ≤ S.length) : (putA S a t).length = S.length := by simp [putA]; omega
theorem putA_get (S : List UInt8) (a : Nat) (t : List UInt8) (h : a + t.length ≤ S.length) (j : Nat) : (putA S a t)[j]? = if j < a then S[j]? else if j < a + t.length then t[j - a]? else S[j]? := by
  have ha : (S.take a).length = a := by rw [List.length_take]; omega
  unfold putA
  rw [List.append_assoc]
  by_cases c : j < a
  · rw [if_pos c, List.getElem?_append_left (by omega), List.getElem?_take, if_pos c]
  · rw [if_neg c, List.getElem?_append_right (by omega), ha]
    by_cases d : j < a + t.length
    · rw [if_pos d, List.getElem?_append_left (by omega)]
    · rw [if_neg d, List.getElem?_append_right (by omega), List.getElem?_drop]
      congr 1; omega
theorem blk_get (S : List UInt8) (i j : Nat) : (blk S i)[j]? = if j < 64 then S[64 * i + j]? else none := by
  unfold blk
  rw [List.getElem?_take]
  by_cases c : j < 64
  · rw [if_pos c, if_pos c, List.getElem?_drop]
  · rw [if_neg c, if_neg c]
theorem blk_put (S : List UInt8) (y o : Nat) (t : List UInt8) (i : Nat) (ho : o + t.length ≤ 64) (hy : 64 * y + 64 ≤ S.length) (hi : 64 * i + 64 ≤ S.length) : blk (putA S (64 * y + o) t) i = if i = y then putA (blk S y) o t else blk S i := by
  have hb := blk_length S y hy
  apply List.ext_getElem?
  intro j
  rw [blk_get, putA_get S _ t (by omega)]
  by_cases e : i = y
  · subst e
    rw [if_pos rfl, putA_get (blk S i) o t (by omega), blk_get]
    by_cases c : j < 64
    · rw [if_pos c, if_pos c]
      by_cases d : j < o
      · rw [if_pos d, if_pos (by omega)]
      · rw [if_neg d, if_neg (by omega)]
        by_cases f : j < o + t.length
        · rw [if_pos f, if_pos (by omega)]; congr 1; omega
        · rw [if_neg f, if_neg (by omega)]
    · rw [if_neg c, if_neg c, if_neg (by omega), if_neg (by omega)]
  · rw [if_neg e, blk_get]
    by_cases c : j < 64
    · rw [if_pos c, if_pos c]
      by_cases d : 64 * i + j < 64 * y + o
      · rw [if_pos d]
      · rw [if_neg d, if_neg (by omega)]
    · rw [if_neg c, if_neg c]
theorem withP_bytes (b t : ByteArray) (o : Nat) (h : o + t.size ≤ b.size) : (withP b o t).data.toList = putA b.data.toList o t.data.toList := by
  unfold withP putA
  simp [ByteArray.data_append, ByteArray.data_extract]
  rw [List.take_of_length_le (by simp)]
theorem safeL_bytes (s : ByteArray) (y : Int) (hy : 0 ≤ y) : (safeL s y).data.toList = blk s.data.toList y.toNat := by
  unfold safeL blk
  rw [ByteArray.data_extract]
  simp
  rw [show (64 * y).toNat = 64 * y.toNat by omega, show (64 * y + 64).toNat - 64 * y.toNat = 64 by omega]
theorem store_form (s : ByteArray) (l : List S67) (y : Int) (o : Nat) (t : ByteArray) (hsr : srt l) :
    ∃ p r z, storeL s y o t false l [] = p ++ z :: r ∧ z.f0 = y ∧ (∀ x ∈ p, x.f0 < y) ∧ (∀ x ∈ r, y < x.f0) ∧ ((l = p ++ r ∧ z = stNew s y o t) ∨ ∃ x, l = p ++ x :: r ∧ x.f0 = y ∧ z = stx y o t x) := by
  obtain ⟨p, r, e, h1, h2⟩ := split_srt y l hsr
  subst e
  by_cases c : ∃ x r', r = x :: r' ∧ x.f0 = y
  · obtain ⟨x, r', rfl, hx⟩ := c
    have nr : ∀ z ∈ r', y < z.f0 := fun z hz => by
      have := (List.pairwise_cons.1 (List.pairwise_append.1 hsr).2.1).1 z hz
      omega
    refine ⟨p, r', stx y o t x, ?_, by unfold stx; rw [if_pos hx]; exact hx, h1, nr, Or.inr ⟨x, rfl, hx, rfl⟩⟩
    rw [st_pre s y o t (x :: r') p [] h1, store_cons, if_neg (by intro z; omega), if_pos hx, st_done s y o t r' _ (fun z hz => by have := nr z hz; omega)]
    simp
  · have nr : ∀ z ∈ r, y < z.f0 := fun z hz => by
      cases r with
      | nil => cases hz
      | cons x r' =>
        have hx : ¬ x.f0 = y := fun e => c ⟨x, r', rfl, e⟩
        have hx2 := h2 x (by simp)
        rcases List.mem_cons.1 hz with rfl | hz
        · omega
        · have := (List.pairwise_cons.1 (List.pairwise_append.1 hsr).2.1).1 z hz
          omega
    refine ⟨p, r, stNew s y o t, ?_, rfl, h1, nr, Or.inl ⟨rfl, rfl⟩⟩
    rw [st_pre s y o t r p [] h1]
    cases r with
    | nil => rw [store_nil, if_neg (by decide)]; rfl
    | cons x r' =>
      have hx2 := nr x (by simp)
      rw [store_cons, if_pos ⟨rfl, hx2⟩, st_done s y o t r' _ (fun z hz => by have := nr z (by simp [hz]); omega)]
      simp
theorem store_srt (s : ByteArray) (l : List S67) (y : Int) (o : Nat) (t : ByteArray) (hsr : srt l) : srt (storeL s y o t false l []) := by
  obtain ⟨p, r, z, e, hz, h1, h2, h⟩ := store_form s l y o t hsr
  rw [e]
  have hp : p.Pairwise (fun x y => x.f0 < y.f0) ∧ r.Pairwise (fun x y => x.f0 < y.f0) := by
    rcases h with ⟨rfl, _⟩ | ⟨x, rfl, _, _⟩
    · have := List.pairwise_append.1 hsr; exact ⟨this.1, this.2.1⟩
    · have := List.pairwise_append.1 hsr; exact ⟨this.1, (List.pairwise_cons.1 this.2.1).2⟩
  unfold srt
  rw [List.pairwise_append]
  refine ⟨hp.1, List.pairwise_cons.2 ⟨fun x hx => by have := h2 x hx; omega, hp.2⟩, fun a ha b hb => ?_⟩
  have := h1 a ha
  rcases List.mem_cons.1 hb with rfl | hb
  · omega
  · have := h2 b hb; omega
theorem store_seenB (s : ByteArray) (l : List S67) (y o : Nat) (t : ByteArray) (hsr : srt l) (hok : ∀ x ∈ l, okL s.size x) (ho : o + t.size ≤ 64) (hy : 64 * y + 64 ≤ s.size) (i : Nat) : seenB s.data.toList (storeL s (y : Int) o t false l []) i = if i = y then putA (seenB s.data.toList l y) o t.data.toList else seenB s.data.toList l i := by
  obtain ⟨p, r, z, e, hz, h1, h2, h⟩ := store_form s l (y : Int) o t hsr
  rw [e]
  rw [seenB_eq, seenB_eq, seenB_eq, List.foldl_append, List.foldl_cons]
  by_cases c : i = y
  · subst c
    rw [if_pos rfl]
    have np : ∀ x ∈ p, x.f0 ≠ (i : Int) := fun x hx => by have := h1 x hx; omega
    have nr : ∀ x ∈ r, x.f0 ≠ (i : Int) := fun x hx => by have := h2 x hx; omega
    rw [gS_no r i nr, show gS i _ z = z.f1.data.toList by unfold gS; rw [if_pos hz]]
    rcases h with ⟨rfl, rfl⟩ | ⟨x, rfl, hx, rfl⟩
    · rw [List.foldl_append, gS_no p i np, gS_no r i nr]
      show (withP (safeL s (i : Int)) o t).data.toList = _
      rw [withP_bytes _ _ _ (by rw [safeL_size s _ (by omega) (by omega)]; omega), safeL_bytes s _ (by omega), Int.toNat_natCast]
    · have hx1 := (hok x (by simp)).2.2.1
      rw [List.foldl_append, List.foldl_cons, gS_no r i nr, show gS i (p.foldl (gS i) (blk s.data.toList i)) x = x.f1.data.toList by unfold gS; rw [if_pos hx]]
      have : (stx (i : Int) o t x).f1 = withP x.f1 o t := by unfold stx; rw [if_pos hx]
      rw [this, withP_bytes _ _ _ (by omega)]
  · rw [if_neg c]
    rw [show gS i (p.foldl (gS i) (blk s.data.toList i)) z = p.foldl (gS i) (blk s.data.toList i) by unfold gS; rw [if_neg (by omega)]]
    rcases h with ⟨rfl, rfl⟩ | ⟨x, rfl, hx, rfl⟩
    · rw [List.foldl_append]
    · rw [List.foldl_append, List.foldl_cons, show gS i (p.foldl (gS i) (blk s.data.toList i)) x = p.foldl (gS i) (blk s.data.toList i) by unfold gS; rw [if_neg (by omega)]]
theorem seenL_blk (s : ByteArray) (l : List S67) (hd : DevOk s l) (i : Nat) (hi : 64 * i + 64 ≤ s.size) : blk (seenL s.data.toList l) i = seenB s.data.toList l i ∧ (seenL s.data.toList l).length = s.size := by
  have hb : s.data.toList.length % 64 = 0 := by rw [dlen]; have := hd.1; omega
  have ho : ∀ x ∈ l, 0 ≤ x.f0 ∧ 64 * x.f0 + 64 ≤ (s.data.toList.length : Int) ∧ x.f1.size = 64 := fun x hx => by have := okL_of hd x hx; rw [dlen]; exact ⟨this.1, this.2.1, this.2.2.1⟩
  have e := layAll_seen l s.data.toList hb ho
  obtain ⟨a1, a2⟩ := layAll_blk l s.data.toList ho
  rw [← e]
  exact ⟨a2 i (by rw [dlen]; exact hi), a1.trans (dlen s)⟩
theorem store_seenL (s : ByteArray) (l : List S67) (y o : Nat) (t : ByteArray) (hd : DevOk s l) (ho : o + t.size ≤ 64) (hy : 64 * y + 64 ≤ s.size) : seenL s.data.toList (storeL s (y : Int) o t false l []) = putA (seenL s.data.toList l) (64 * y + o) t.data.toList := by
  have h1 := hd.1
  have SL := (seenL_blk s l hd y hy).2
  have tl : t.data.toList.length = t.size := dlen t
  have pl : (putA (seenL s.data.toList l) (64 * y + o) t.data.toList).length = s.size := by rw [putA_len _ _ _ (by omega), SL]
  have e := join_blk (putA (seenL s.data.toList l) (64 * y + o) t.data.toList) (s.size / 64)
  rw [List.take_of_length_le (by rw [pl]; omega)] at e
  rw [← e]
  unfold seenL
  rw [dlen, List.flatMap_def, List.flatMap_def]
  congr 1
  apply List.map_congr_left
  intro i hi
  have hi' : 64 * i + 64 ≤ s.size := by have := List.mem_range.1 hi; omega
  have hb := blk_put (seenL s.data.toList l) y o t.data.toList i (by omega) (by omega) (by omega)
  unfold seenL at hb
  rw [dlen] at hb
  rw [hb, store_seenB s l y o t (srt_of hd) (okL_of hd) ho hy i]
  have z1 := (seenL_blk s l hd i hi').1
  have z2 := (seenL_blk s l hd y hy).1
  unfold seenL at z1 z2
  rw [dlen] at z1 z2
  rw [z1, z2]
theorem store_DevOk (s : ByteArray) (l : List S67) (y : Int) (o : Nat) (t : ByteArray) (hd : DevOk s l) (hy : 0 ≤ y) (hys : 64 * y + 64 ≤ (s.size : Int)) (ht : o + t.size ≤ 64) : DevOk s (storeL s y o t false l []) :=
  devOk_of hd.1.1 hd.1.2 (store_ok s y o t hy hys ht l false [] (okL_of hd) (fun x hx => by cases hx)) (store_srt s l y o t (srt_of hd))
theorem ext_bytes (b : ByteArray) (i j : Nat) : (b.extract i j).toList = (b.data.toList.take j).drop i := by
  rw [ByteArray.toList_eq, ByteArray.data_extract]
  simp [List.drop_take]
theorem FnStored : laws_FnStored.Pure := by
  intro l _ h1 h2
  refine Ev.rounds (r := true) ?_
  unfold laws_FnStored.f laws_big.f
  simp only [Option.bind_some]
  by_cases c : (l.length : Int) > 1048576
  · simp only [decide_eq_true c, if_true]; exact Ev.now _
  · simp only [decide_eq_false c, Bool.false_eq_true, if_false]
    obtain ⟨s, q, a, t, e, hs, hq, ht, ha⟩ := drawSt l h1 h2
    have i0 := sSe s q (by omega) (by omega)
    have i1 := iStP s q a t (by omega) (by omega) (by omega)
    have i2 := sStP s q a t (by omega) (by omega) (by omega)
    have hp := storeP_len2 s q a t
    refine evThen e (fun k => rfl) (evThen i0 (fun k => rfl) (evThen i1 (fun k => rfl) (evThen i2 (fun k => rfl) ?_)))
    have sd := sameDev_ev (storeP s q a t).1 (storeP s q a t).2.1 (by omega)
    simp only [bne_self_eq_false, Bool.false_eq_true, if_false]
    refine evThen sd (fun k => rfl) ?_
    simp only [if_true]
    by_cases D : DevOk s q ∧ (1 ≤ t.size ∧ t.size ≤ 64) ∧ 0 ≤ a ∧ a < (s.size : Int) ∧ a % 64 + (t.size : Int) ≤ 64
    · have ep : storeP s q a t = (s, storeL s (a / 64) (a % 64).toNat t false q [], true) := by unfold storeP; rw [if_pos D]
      rw [ep] at hp
      obtain ⟨D, ⟨t1, t2⟩, a0, a1, a2⟩ := D
      have h64 := D.1
      obtain ⟨y, hy⟩ : ∃ y : Nat, (y : Int) = a / 64 := ⟨(a / 64).toNat, by omega⟩
      obtain ⟨o, ho⟩ : ∃ o : Nat, o = (a % 64).toNat := ⟨_, rfl⟩
      have ea : a = ((64 * y + o : Nat) : Int) := by omega
      have hys : 64 * y + 64 ≤ s.size := by omega
      have hot : o + t.size ≤ 64 := by omega
      have DL := store_DevOk s q (y : Int) o t D (by omega) (by omega) hot
      have SL := store_seenL s q y o t D hot hys
      have SZ := (seenL_blk s q D y hys).2
      rw [ep]
      simp only [Bool.not_true]
      rw [← hy, ← ho] at hp ⊢
      generalize storeL s (y : Int) o t false q [] = L at *
      have k1 := iSe s L (by omega) (by simp at hp; omega)
      have k2 := iLo s L a (t.size : Int) (by omega) (by simp at hp; omega) ha (by omega)
      have k3 := iDO s L (by omega) (by simp at hp; omega)
      have eS : seenP s L = ⟨(putA (seenL s.data.toList q) (64 * y + o) t.data.toList).toArray⟩ := by unfold seenP; rw [if_pos DL, SL]
      have eO : seenP s q = ⟨(seenL s.data.toList q).toArray⟩ := by unfold seenP; rw [if_pos D]
      have tl : t.data.toList.length = t.size := dlen t
      have PL : (putA (seenL s.data.toList q) (64 * y + o) t.data.toList).length = s.size := by rw [putA_len _ _ _ (by omega), SZ]
      have eL : loadP s L a (t.size : Int) = ((⟨(putA (seenL s.data.toList q) (64 * y + o) t.data.toList).toArray⟩ : ByteArray).extract a.toNat (a + (t.size : Int)).toNat, true) := by
        unfold loadP
        rw [if_pos (⟨DL, a0, by omega, by omega⟩ : DevOk s L ∧ 0 ≤ a ∧ 0 ≤ (t.size : Int) ∧ a + (t.size : Int) ≤ (s.size : Int)), SL]
      rw [eS] at k1
      rw [eL] at k2
      rw [(devOkB_iff s L).2 DL] at k3
      rw [eO]
      generalize hS : seenL s.data.toList q = S at *
      generalize hT : putA S (64 * y + o) t.data.toList = T at *
      have sT : (⟨T.toArray⟩ : ByteArray).size = s.size := List.size_toArray.trans PL
      have sS : (⟨S.toArray⟩ : ByteArray).size = s.size := List.size_toArray.trans SZ
      have eN : wrap64 (a + (t.size : Int)) = ((64 * y + o + t.size : Nat) : Int) := by rw [w64 (by omega) (by omega)]; omega
      have n1 : a.toNat = 64 * y + o := by omega
      have n2 : (a + (t.size : Int)).toNat = 64 * y + o + t.size := by omega
      have b1 : ((⟨T.toArray⟩ : ByteArray).extract (64 * y + o) (64 * y + o + t.size)).toList = t.toList := by
        rw [ext_bytes, ByteArray.toList_eq, ← hT]
        show ((putA S (64 * y + o) t.data.toList).take _).drop _ = _
        unfold putA
        rw [← tl, List.take_left' (by rw [List.length_append, List.length_take]; omega), List.drop_left' (by rw [List.length_take]; omega)]
      have b2 : ((⟨T.toArray⟩ : ByteArray).extract 0 (64 * y + o)).toList = ((⟨S.toArray⟩ : ByteArray).extract 0 (64 * y + o)).toList := by
        rw [ext_bytes, ext_bytes, ← hT]
        show ((putA S (64 * y + o) t.data.toList).take _).drop 0 = (S.take _).drop 0
        unfold putA
        rw [List.append_assoc, List.take_left' (by rw [List.length_take]; omega)]
      have b3 : ((⟨T.toArray⟩ : ByteArray).extract (64 * y + o + t.size) (⟨T.toArray⟩ : ByteArray).size).toList = ((⟨S.toArray⟩ : ByteArray).extract (64 * y + o + t.size) (⟨S.toArray⟩ : ByteArray).size).toList := by
        rw [ext_bytes, ext_bytes, sT, sS]
        show (T.take s.size).drop _ = (S.take s.size).drop _
        rw [List.take_of_length_le (by omega), List.take_of_length_le (by omega), ← hT]
        unfold putA
        rw [← tl, List.drop_left' (by rw [List.length_append, List.length_take]; omega)]
      refine Ev.step (f := fun k => _) (fun k => by simp (implicitDefEqProofs := false) only [laws_FnStored.j0, Bool.false_eq_true, if_false]; rfl) ?_
      refine evThen k1 (fun k => rfl) (evThen k2 (fun k => rfl) ?_)
      simp only [if_true]
      have g1 : ((⟨T.toArray⟩ : ByteArray).size : Int) = ((⟨S.toArray⟩ : ByteArray).size : Int) := by rw [sT, sS]
      have g2 : a ≤ ((⟨T.toArray⟩ : ByteArray).size : Int) := by rw [sT]; omega
      have g3 : a ≤ ((⟨S.toArray⟩ : ByteArray).size : Int) := by rw [sS]; omega
      have g4 : a ≤ ((64 * y + o + t.size : Nat) : Int) := by omega
      have g5 : ((64 * y + o + t.size : Nat) : Int) ≤ ((⟨T.toArray⟩ : ByteArray).size : Int) := by rw [sT]; omega
      have g6 : 0 ≤ ((64 * y + o + t.size : Nat) : Int) := by omega
      have g7 : ((64 * y + o + t.size : Nat) : Int) ≤ ((⟨S.toArray⟩ : ByteArray).size : Int) := by rw [sS]; omega
      simp only [n1, n2, eN, Int.toNat_natCast, if_pos b1]
      simp only [if_pos g1, if_pos a0, if_pos g2, if_pos g3, if_pos b2, if_pos g4, if_pos g5, if_pos g6, if_pos g7, if_pos b3, if_true]
      exact evThen k3 (fun k => rfl) (Ev.now _)
    · have ep : storeP s q a t = ((⟨#[]⟩ : ByteArray), [], false) := by unfold storeP; rw [if_neg D]
      rw [ep] at sd
      simp only [ep, Bool.not_false]
      refine Ev.step (f := fun k => _) (fun k => by simp (implicitDefEqProofs := false) only [laws_FnStored.j0, beq_self_eq_true, if_true]; rfl) ?_
      exact evThen sd (fun k => rfl) (Ev.now _)
end Go.Proofs.Ytbbbajnnoficbaa.Pure
