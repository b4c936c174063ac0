/- The program's Logged returns what the reference's returns, for all arguments. -/
import Derived.Test.YtngccjeicolcpaaGreatDoorPFnExactLoggedx0
import Derived.Test.YtngccjeicolcpaaGreatDoorPFnExactLoggedx1
import Derived.Test.YtngccjeicolcpaaGreatDoorPFnExactLoggedx2
import Derived.Test.YtngccjeicolcpaaGreatDoorPFnExactLoggedx3
import Derived.Test.YtngccjeicolcpaaGreatDoorPFnExactLoggedx4
import Derived.Test.YtngccjeicolcpaaGreatDoorPFnExactLoggedx5
import Derived.Test.YtngccjeicolcpaaGreatDoorPFnExactLoggedx6
import Derived.Test.YtngccjeicolcpaaGreatDoorPFnExactLoggedx7
import Derived.Test.YtngccjeicolcpaaGreatDoorPFnExactLoggedx8
import Derived.Test.YtngccjeicolcpaaGreatDoorPFnExactLoggedx9
import Derived.Test.YtngccjeicolcpaaGreatDoorPFnExactLoggedx10
import Derived.Test.YtngccjeicolcpaaGreatDoorPFnExactLoggedx11
import Derived.Test.YtngccjeicolcpaaGreatDoorPFnExactLoggedx12
import Derived.Test.YtngccjeicolcpaaGreatDoorPFnExactLoggedx13
import Derived.Test.YtngccjeicolcpaaGreatDoorPFnExactLoggedx14
import Derived.Test.YtngccjeicolcpaaGreatDoorPFnExactLoggedx15
namespace Go.Proofs.YtngccjeicolcpaaGreatDoor.Pure
open Go.RowKit Go.Proofs.YtngccjeicolcpaaGreatDoor.PFnExactLogged Go.Proofs.YtngccjeicolcpaaGreatDoorW.PrintWords Go.Proofs.YtngccjeicolcpaaGreatDoorW.PrintLast
set_option linter.unusedVariables false
set_option linter.unusedSimpArgs false
theorem w64 {n : Int} (h0 : -9223372036854775808 ≤ n) (h1 : n ≤ 9223372036854775807) : wrap64 n = n := by unfold wrap64; omega
theorem u64 (n : Int) : IntKind.u64.wrap n = n % 18446744073709551616 := by simp [IntKind.wrap, IntKind.bits, IntKind.signed]
theorem evThen {α β : Type} {g : Nat → Option α} {h : Nat → Option β} {f : Nat → α → Option β} {a : α} {r : β} (e : Ev g a) (he : ∀ k, h k = (g k).bind (f k)) (k : Ev (fun n => f n a) r) : Ev h r := Ev.congr he (Ev.bind e k)
theorem evIs {α : Type} {g : Nat → Option α} {r : α} (h : ∀ k, g k = some r) : Ev g r := ⟨0, fun k _ => h k⟩
theorem evIs1 {α : Type} {g : Nat → Option α} {r : α} (h : ∀ k, g (k + 1) = some r) : Ev g r := ⟨1, fun k hk => by cases k with | zero => omega | succ k => exact h k⟩
theorem rdS (l : List ByteArray) (i : Nat) (h : i < l.length) : rdOf ByteArray.empty l (i : Int) = l[i] := by
  unfold rdOf; rw [Int.toNat_natCast, List.getD_eq_getElem?_getD, List.getElem?_eq_getElem h]; rfl
theorem szStringS_l (l : List ByteArray) (hl : l.length ≤ 9223372036854775807) (hx : ∀ s ∈ l, s.size ≤ 9223372036854775807) : ∀ (n : Nat) (left : Int) (i : Nat), i + n = l.length → 0 ≤ left → left ≤ 1048576 → ∃ r, Ev (fun k => laws_szStringS.l0 k l left (i : Int)) r ∧ r ≤ left ∧ -1 ≤ r ∧ (0 ≤ r → ∀ s ∈ l.drop i, s.size ≤ 1048576) := by
  intro n
  induction n with
  | zero => intro left i hi h0 h1; exact ⟨left, evIs1 (fun k => by simp only [laws_szStringS.l0]; rw [if_neg (by omega)]), by omega, by omega, fun _ => by rw [List.drop_eq_nil_iff.2 (by omega)]; intro s hs; cases hs⟩
  | succ n ih =>
    intro left i hi h0 h1
    have hil : i < l.length := by omega
    have hb := hx _ (List.getElem_mem hil)
    by_cases c : left - ((l[i]).size : Int) < 0
    · refine ⟨-1, evIs1 (fun k => ?_), by omega, by omega, by omega⟩
      simp only [laws_szStringS.l0]
      rw [if_pos (by omega), if_pos (by omega), rdS l i hil, if_pos (by rw [w64 (by omega) (by omega)]; exact c)]
    · obtain ⟨z, hz, z1, z2, z3⟩ := ih (left - ((l[i]).size : Int)) (i + 1) (by omega) (by omega) (by omega)
      refine ⟨z, Ev.step (f := fun k => laws_szStringS.l0 k l (left - ((l[i]).size : Int)) ((i + 1 : Nat) : Int)) (fun k => ?_) hz, by omega, z2, fun hz0 => ?_⟩
      · simp only [laws_szStringS.l0]
        rw [if_pos (by omega), if_pos (by omega), rdS l i hil, w64 (n := left - ((l[i]).size : Int)) (by omega) (by omega), if_neg c, w64 (by omega) (by omega)]
        rfl
      · rw [List.drop_eq_getElem_cons hil]
        intro s hs
        rcases List.mem_cons.1 hs with rfl | hs
        · omega
        · exact z3 hz0 s hs
theorem szStringS_ev (l : List ByteArray) (hl : l.length ≤ 9223372036854775807) (hx : ∀ s ∈ l, s.size ≤ 9223372036854775807) (left : Int) (h0 : left ≤ 1048576) (h1 : 0 ≤ left) : ∃ r, Ev (fun k => laws_szStringS.f k l left) r ∧ r ≤ left ∧ -1 ≤ r ∧ (0 ≤ r → l.length ≤ 1048576 ∧ ∀ s ∈ l, s.size ≤ 1048576) := by
  have e : wrap64 (left - (l.length : Int)) = left - (l.length : Int) := w64 (by omega) (by omega)
  by_cases c : left - (l.length : Int) < 0
  · exact ⟨-1, evIs fun k => by unfold laws_szStringS.f; rw [e, if_pos c], by omega, by omega, by omega⟩
  · obtain ⟨r, hr, r1, r2, r3⟩ := szStringS_l l hl hx l.length (left - (l.length : Int)) 0 (by omega) (by omega) (by omega)
    exact ⟨r, Ev.congr (fun k => by unfold laws_szStringS.f; rw [e, if_neg c]; rfl) hr, by omega, r2, fun h => ⟨by omega, fun s hs => r3 h s (by simpa using hs)⟩⟩
theorem szConfig_ev (a b c : Int) (l : List ByteArray) (hl : l.length ≤ 9223372036854775807) (hx : ∀ s ∈ l, s.size ≤ 9223372036854775807) (left : Int) (h0 : left ≤ 1048576) (h1 : 0 ≤ left) : ∃ r, Ev (fun k => laws_szConfig.f k a b c l left) r ∧ r ≤ left ∧ -1 ≤ r ∧ (0 ≤ r → l.length ≤ 1048576 ∧ ∀ s ∈ l, s.size ≤ 1048576) := by
  obtain ⟨r, hr, r1, r2, r3⟩ := szStringS_ev l hl hx left h0 h1
  by_cases d : r < 0
  · exact ⟨-1, evThen hr (fun k => rfl) (evIs fun k => by rw [if_pos d]), by omega, by omega, by omega⟩
  · exact ⟨r, evThen hr (fun k => rfl) (evIs fun k => by rw [if_neg d]), r1, r2, r3⟩
theorem szLine_some (a : Int) (b c : ByteArray) (left : Int) : ∃ r, laws_szLine.f a b c left = some r := by
  unfold laws_szLine.f
  split
  · exact ⟨_, rfl⟩
  · split <;> exact ⟨_, rfl⟩
theorem szLineS_l (l : List S103) (hl : l.length ≤ 9223372036854775807) : ∀ (n : Nat) (left : Int) (i : Nat), i + n = l.length → ∃ r, Ev (fun k => laws_szLineS.l0 k l left (i : Int)) r := by
  intro n
  induction n with
  | zero => intro left i hi; exact ⟨left, Ev.step (f := fun _ => some left) (fun k => by simp only [laws_szLineS.l0]; rw [if_neg (by omega)]) (Ev.now _)⟩
  | succ n ih =>
    intro left i hi
    obtain ⟨r, hr⟩ := szLine_some (rd_T103 l i).f0 (rd_T103 l i).f1 (rd_T103 l i).f2 left
    by_cases c : r < 0
    · exact ⟨-1, Ev.step (f := fun _ => some (-1)) (fun k => by simp only [laws_szLineS.l0]; rw [if_pos (by omega), if_pos (by omega), hr, Option.bind_some, if_pos c]) (Ev.now _)⟩
    · obtain ⟨z, hz⟩ := ih r (i + 1) (by omega)
      refine ⟨z, Ev.step (f := fun k => laws_szLineS.l0 k l r ((i + 1 : Nat) : Int)) (fun k => ?_) hz⟩
      simp only [laws_szLineS.l0]
      rw [if_pos (by omega), if_pos (by omega), hr, Option.bind_some, if_neg c, w64 (by omega) (by omega)]
      rfl
theorem szLineS_ev (l : List S103) (hl : l.length ≤ 9223372036854775807) (left : Int) (h0 : left ≤ 1048576) (h1 : 0 ≤ left) : ∃ r, Ev (fun k => laws_szLineS.f k l left) r ∧ (0 ≤ r → l.length ≤ 1048576) := by
  by_cases c : wrap64 (left - (l.length : Int)) < 0
  · exact ⟨-1, evIs fun k => by unfold laws_szLineS.f; rw [if_pos c], by omega⟩
  · obtain ⟨r, hr⟩ := szLineS_l l hl l.length (wrap64 (left - (l.length : Int))) 0 (by omega)
    refine ⟨r, Ev.congr (fun k => by unfold laws_szLineS.f; rw [if_neg c]; rfl) hr, fun _ => ?_⟩
    rw [w64 (by omega) (by omega)] at c
    omega
theorem toStrs_l (l : List ByteArray) (hl : l.length ≤ 1048576) : ∀ (n i : Nat), i + n = l.length → Ev (fun k => laws_toStringS.l0 k l (l.take i ++ List.replicate n (⟨#[]⟩ : ByteArray)) (i : Int)) l := by
  intro n
  induction n with
  | zero =>
    intro i hi
    refine evIs1 (fun k => ?_)
    simp only [laws_toStringS.l0]
    rw [if_neg (by omega), List.take_of_length_le (by omega)]
    simp
  | succ n ih =>
    intro i hi
    have h := ih (i + 1) (by omega)
    refine Ev.step (f := fun k => laws_toStringS.l0 k l (l.take (i + 1) ++ List.replicate n (⟨#[]⟩ : ByteArray)) ((i + 1 : Nat) : Int)) (fun k => ?_) h
    simp only [laws_toStringS.l0]
    have hlen : (l.take i ++ List.replicate (n + 1) (⟨#[]⟩ : ByteArray)).length = l.length := by simp; omega
    have hi' : i < l.length := by omega
    rw [if_pos (by omega), if_pos (by omega), if_pos (by rw [hlen]; omega), w64 (by omega) (by omega), rdS l i hi']
    congr 1
    have hm : (l.take i).length = i := by simp; omega
    rw [Int.toNat_natCast, List.set_append_right _ _ (by omega), hm, Nat.sub_self, List.replicate_succ, List.set_cons_zero, List.take_add_one, List.append_assoc]
    congr 1
    simp [hi']
theorem toStrs_ev (l : List ByteArray) (hl : l.length ≤ 1048576) : Ev (fun k => laws_toStringS.f k l) l := by
  have h := toStrs_l l hl l.length 0 (by omega)
  refine Ev.congr (fun k => ?_) h
  unfold laws_toStringS.f
  rw [if_pos (by omega), if_pos (by omega)]
  simp
theorem toConfig_ev (a b c : Int) (l : List ByteArray) (hl : l.length ≤ 1048576) : Ev (fun k => laws_toConfig.f k a b c l) (a, b, c, l) :=
  evThen (toStrs_ev l hl) (fun k => rfl) (evIs fun k => rfl)
def cv (x : S103) : S106 := ⟨x.f0, x.f1, x.f2⟩
theorem toLineS_l (l : List S103) (hl : l.length ≤ 1048576) : ∀ (n i : Nat), i + n = l.length → Ev (fun k => laws_toLineS.l0 k l ((l.take i).map cv ++ List.replicate n z106) (i : Int)) (l.map cv) := by
  intro n
  induction n with
  | zero =>
    intro i hi
    refine Ev.step (f := fun _ => some (l.map cv)) (fun k => ?_) (Ev.now _)
    simp only [laws_toLineS.l0]
    rw [if_neg (by omega), List.take_of_length_le (by omega)]
    simp
  | succ n ih =>
    intro i hi
    have h := ih (i + 1) (by omega)
    refine Ev.step (f := fun k => laws_toLineS.l0 k l ((l.take (i + 1)).map cv ++ List.replicate n z106) ((i + 1 : Nat) : Int)) (fun k => ?_) h
    simp only [laws_toLineS.l0, laws_toLine.f, Option.bind_some]
    have hlen : ((l.take i).map cv ++ List.replicate (n + 1) z106).length = l.length := by simp; omega
    rw [if_pos (by omega), if_pos (by omega), if_pos (by rw [hlen]; omega), w64 (by omega) (by omega)]
    congr 1
    have hm : ((l.take i).map cv).length = i := by simp; omega
    rw [Int.toNat_natCast, List.set_append_right _ _ (by omega), hm, Nat.sub_self, List.replicate_succ, List.set_cons_zero, List.take_add_one, List.map_append, List.append_assoc]
    congr 1
    have hi' : i < l.length := by omega
    simp [rd_T103, List.getD, hi', cv]
theorem toDevice_ev (s : ByteArray) (l : List S103) (hl : l.length ≤ 1048576) : Ev (fun k => laws_toDevice.f k s l) (s, l.map cv) := by
  have h := toLineS_l l hl l.length 0 (by omega)
  unfold laws_toDevice.f
  refine evThen (g := fun k => laws_toLineS.f k l) (a := l.map cv) (Ev.congr (fun k => ?_) h) (fun k => rfl) (Ev.now _)
  unfold laws_toLineS.f
  rw [if_pos (by omega), if_pos (by omega)]
  simp
theorem eqLineS_refl : ∀ l : List S106, laws_eqLineS.f l l = some true
  | [] => rfl
  | x :: xs => by unfold laws_eqLineS.f; rw [if_pos ⟨rfl, rfl, rfl⟩]; exact eqLineS_refl xs
theorem eqDevice_refl (s : ByteArray) (l : List S106) : laws_eqDevice.f s l s l = some true := by unfold laws_eqDevice.f; rw [if_pos rfl]; exact eqLineS_refl l
theorem eqStrs_refl (l : List ByteArray) : laws_eqStringS.f l l = some true := by unfold laws_eqStringS.f; rw [if_pos rfl]
theorem eqConfig_refl (a b c : Int) (l : List ByteArray) : laws_eqConfig.f a b c l a b c l = some true := by unfold laws_eqConfig.f; rw [if_pos ⟨rfl, rfl, rfl⟩]; exact eqStrs_refl l
theorem markText_l : ∀ (n : Nat) (x : Int) (t : ByteArray), x < 10 ^ n → x ≤ 1000000000 → t.size + n ≤ 1000 → ∃ r, Ev (fun k => laws_markText.l0 k x t) r := by
  intro n
  induction n with
  | zero =>
    intro x t h _ ht
    exact ⟨_, Ev.step (f := fun _ => some _) (fun k => by simp only [laws_markText.l0]; rw [if_neg (by simp at h; omega), if_pos (by omega)]) (Ev.now _)⟩
  | succ n ih =>
    intro x t h hx ht
    by_cases c : x > 0
    · have hs : ∀ z : Int, (strOfNums [z]).size = 1 := fun z => by rw [strOfNums_size]; rfl
      have hd : Int.tdiv x 10 = x / 10 := Int.tdiv_eq_ediv_of_nonneg (by omega)
      obtain ⟨r, hr⟩ := ih (x / 10) (strOfNums [(wrap64 (48 + (Int.tmod x 10))) % 256] ++ t) (by rw [Int.pow_succ] at h; omega) (by omega) (by rw [ByteArray.size_append, hs]; omega)
      refine ⟨r, Ev.step (f := fun k => laws_markText.l0 k (x / 10) (strOfNums [(wrap64 (48 + (Int.tmod x 10))) % 256] ++ t)) (fun k => ?_) hr⟩
      simp only [laws_markText.l0]
      rw [if_pos c, Option.bind_some, if_pos (by rw [hs]; omega), hd, w64 (by omega) (by omega)]
    · exact ⟨_, Ev.step (f := fun _ => some _) (fun k => by simp only [laws_markText.l0]; rw [if_neg c, if_pos (by omega)]) (Ev.now _)⟩
theorem markText_ev (a : Int) (h : a ≤ 1000000000) : ∃ r, Ev (fun k => laws_markText.f k a) r := by
  by_cases c : a ≤ 0
  · exact ⟨_, evIs fun k => by unfold laws_markText.f; rw [if_pos c]⟩
  · obtain ⟨r, hr⟩ := markText_l 10 a (⟨#[]⟩ : ByteArray) (by omega) h (by decide)
    exact ⟨r, Ev.congr (fun k => by unfold laws_markText.f; rw [if_neg c]) hr⟩
theorem markLineS_l : ∀ (n : Nat) (l : List S106) (i : Nat) (a : Int), l.length ≤ 1048576 → i + n = l.length → 0 ≤ a → a + 3 * n ≤ 100000000 → ∃ r, Ev (fun k => laws_markLineS.l0 k l a (i : Int)) r ∧ 0 ≤ r.1 := by
  intro n
  induction n with
  | zero =>
    intro l i a _ hi ha _
    exact ⟨(a, l), Ev.step (f := fun _ => some (a, l)) (fun k => by simp only [laws_markLineS.l0]; rw [if_neg (by omega)]) (Ev.now _), ha⟩
  | succ n ih =>
    intro l i a hl hi ha hb
    obtain ⟨t1, h1⟩ := markText_ev (a + 1) (by omega)
    obtain ⟨t2, h2⟩ := markText_ev (a + 1 + 1) (by omega)
    have e1 : wrap64 (a + 1) = a + 1 := w64 (by omega) (by omega)
    have e2 : wrap64 (a + 1 + 1) = a + 1 + 1 := w64 (by omega) (by omega)
    have e3 : wrap64 (a + 1 + 1 + 1) = a + 1 + 1 + 1 := w64 (by omega) (by omega)
    have e4 : wrap64 ((i : Int) + 1) = ((i + 1 : Nat) : Int) := by rw [w64 (by omega) (by omega)]; rfl
    obtain ⟨r, hr, h0⟩ := ih (((l.set i ⟨a, (rd_T106 l i).f1, (rd_T106 l i).f2⟩).set i ⟨(rd_T106 (l.set i ⟨a, (rd_T106 l i).f1, (rd_T106 l i).f2⟩) i).f0, t1, (rd_T106 (l.set i ⟨a, (rd_T106 l i).f1, (rd_T106 l i).f2⟩) i).f2⟩).set i ⟨(rd_T106 ((l.set i ⟨a, (rd_T106 l i).f1, (rd_T106 l i).f2⟩).set i ⟨(rd_T106 (l.set i ⟨a, (rd_T106 l i).f1, (rd_T106 l i).f2⟩) i).f0, t1, (rd_T106 (l.set i ⟨a, (rd_T106 l i).f1, (rd_T106 l i).f2⟩) i).f2⟩) i).f0, (rd_T106 ((l.set i ⟨a, (rd_T106 l i).f1, (rd_T106 l i).f2⟩).set i ⟨(rd_T106 (l.set i ⟨a, (rd_T106 l i).f1, (rd_T106 l i).f2⟩) i).f0, t1, (rd_T106 (l.set i ⟨a, (rd_T106 l i).f1, (rd_T106 l i).f2⟩) i).f2⟩) i).f1, t2⟩) (i + 1) (a + 1 + 1 + 1) (by simpa using hl) (by simp; omega) (by omega) (by omega)
    refine ⟨r, Ev.step (f := fun k => (laws_markText.f k (a + 1)).bind fun t1 => (laws_markText.f k (a + 1 + 1)).bind fun t2 => laws_markLineS.l0 k (((l.set i ⟨a, (rd_T106 l i).f1, (rd_T106 l i).f2⟩).set i ⟨(rd_T106 (l.set i ⟨a, (rd_T106 l i).f1, (rd_T106 l i).f2⟩) i).f0, t1, (rd_T106 (l.set i ⟨a, (rd_T106 l i).f1, (rd_T106 l i).f2⟩) i).f2⟩).set i ⟨(rd_T106 ((l.set i ⟨a, (rd_T106 l i).f1, (rd_T106 l i).f2⟩).set i ⟨(rd_T106 (l.set i ⟨a, (rd_T106 l i).f1, (rd_T106 l i).f2⟩) i).f0, t1, (rd_T106 (l.set i ⟨a, (rd_T106 l i).f1, (rd_T106 l i).f2⟩) i).f2⟩) i).f0, (rd_T106 ((l.set i ⟨a, (rd_T106 l i).f1, (rd_T106 l i).f2⟩).set i ⟨(rd_T106 (l.set i ⟨a, (rd_T106 l i).f1, (rd_T106 l i).f2⟩) i).f0, t1, (rd_T106 (l.set i ⟨a, (rd_T106 l i).f1, (rd_T106 l i).f2⟩) i).f2⟩) i).f1, t2⟩) (a + 1 + 1 + 1) ((i + 1 : Nat) : Int)) (fun k => ?_) (evThen h1 (fun k => rfl) (evThen h2 (fun k => rfl) hr)), h0⟩
    simp only [laws_markLineS.l0, Option.bind_some, e1, e2, e3, e4, Int.toNat_natCast]
    rw [if_pos (by omega), if_pos (by omega)]
/-- A line of a right device, by its number. -/
def lineOk (s : ByteArray) (l : List S106) (i : Nat) : Prop :=
  (0 ≤ (rd_T106 l i).f0 ∧ (rd_T106 l i).f0 ≤ (s.size : Int) / 64 - 1) ∧ (0 < i → (rd_T106 l ((i : Int) - 1)).f0 < (rd_T106 l i).f0) ∧ (rd_T106 l i).f1.size = 64 ∧ ((rd_T106 l i).f2.size = 64 ∨ (rd_T106 l i).f2.toList = [])
def DevOk (s : ByteArray) (l : List S106) : Prop := ((s.size : Int) % 64 = 0 ∧ 1 ≤ (s.size : Int) / 64 ∧ (s.size : Int) / 64 ≤ 128) ∧ ∀ j, j < l.length → lineOk s l j
open Classical in
open Classical in
noncomputable def devOkB (s : ByteArray) (l : List S106) : Bool := decide (DevOk s l)
open Classical in
open Classical in
open Classical in
open Classical in
open Classical in
open Classical in
theorem devOkB_iff (s : ByteArray) (l : List S106) : devOkB s l = true ↔ DevOk s l := by
  unfold devOkB; exact decide_eq_true_iff
def safeL (s : ByteArray) (a : Int) : ByteArray := s.extract (64 * a).toNat (64 * a + 64).toNat
theorem rd_nat (l : List S106) (i : Nat) (h : i < l.length) : rd_T106 l (i : Int) = l[i] := by simp [rd_T106, List.getD, h]
noncomputable def mT (a : Int) : ByteArray := open Classical in if h : a ≤ 1000000000 then Classical.choose (markText_ev a h) else (⟨#[]⟩ : ByteArray)
theorem mT_ev (a : Int) (h : a ≤ 1000000000) : Ev (fun k => laws_markText.f k a) (mT a) := by
  unfold mT; rw [dif_pos h]; exact Classical.choose_spec (markText_ev a h)
noncomputable def mL : Nat → Int → List S106
  | 0, _ => []
  | n + 1, a => ⟨a, mT (a + 1), mT (a + 2)⟩ :: mL n (a + 3)
theorem mL_len : ∀ n a, (mL n a).length = n
  | 0, _ => rfl
  | n + 1, a => by simp [mL, mL_len n]
theorem mL_succ : ∀ (n : Nat) (a : Int), mL (n + 1) a = mL n a ++ [⟨a + 3 * n, mT (a + 3 * n + 1), mT (a + 3 * n + 2)⟩]
  | 0, a => by simp [mL]
  | n + 1, a => by
    show (⟨a, mT (a + 1), mT (a + 2)⟩ : S106) :: mL (n + 1) (a + 3) = _
    rw [mL_succ n (a + 3)]
    have e : a + 3 + 3 * (n : Int) = a + 3 * ((n + 1 : Nat) : Int) := by omega
    rw [e]
    rfl
theorem rd_mid (p r : List S106) (y : S106) (i : Nat) (h : p.length = i) : rd_T106 (p ++ y :: r) (i : Int) = y := by
  subst h; simp [rd_T106, List.getD]
theorem set_mid (p r : List S106) (y z : S106) (i : Nat) (h : p.length = i) : (p ++ y :: r).set i z = p ++ z :: r := by
  subst h; rw [List.set_append_right _ _ (by omega), Nat.sub_self, List.set_cons_zero]
theorem markLs_l (l : List S106) (hl : l.length ≤ 1048576) : ∀ (n i : Nat), i + n = l.length → Ev (fun k => laws_markLineS.l0 k (mL i 1 ++ l.drop i) (1 + 3 * (i : Int)) (i : Int)) (1 + 3 * (l.length : Int), mL l.length 1) := by
  intro n
  induction n with
  | zero =>
    intro i hi
    obtain rfl : i = l.length := by omega
    refine Ev.step (f := fun _ => some _) (fun k => ?_) (Ev.now _)
    simp only [laws_markLineS.l0]
    rw [if_neg (by simp [mL_len])]
    simp
  | succ n ih =>
    intro i hi
    have h := ih (i + 1) (by omega)
    have e1 : wrap64 (1 + 3 * (i : Int) + 1) = 1 + 3 * (i : Int) + 1 := w64 (by omega) (by omega)
    have e2 : wrap64 (1 + 3 * (i : Int) + 1 + 1) = 1 + 3 * (i : Int) + 2 := by rw [w64 (by omega) (by omega)]; omega
    have e3 : wrap64 (1 + 3 * (i : Int) + 2 + 1) = 1 + 3 * ((i + 1 : Nat) : Int) := by rw [w64 (by omega) (by omega)]; omega
    have e4 : wrap64 ((i : Int) + 1) = ((i + 1 : Nat) : Int) := by rw [w64 (by omega) (by omega)]; rfl
    have c1 : (i : Int) < ((mL i 1 ++ l.drop i).length : Int) := by simp [mL_len]; omega
    refine Ev.step (f := fun k => (laws_markText.f k (1 + 3 * (i : Int) + 1)).bind fun t1 => (laws_markText.f k (1 + 3 * (i : Int) + 2)).bind fun t2 => laws_markLineS.l0 k (mL i 1 ++ (⟨1 + 3 * (i : Int), t1, t2⟩ : S106) :: l.drop (i + 1)) (1 + 3 * ((i + 1 : Nat) : Int)) ((i + 1 : Nat) : Int)) (fun k => ?_)
      (evThen (mT_ev (1 + 3 * (i : Int) + 1) (by omega)) (fun k => rfl) (evThen (mT_ev (1 + 3 * (i : Int) + 2) (by omega)) (fun k => rfl) ?_))
    · rw [laws_markLineS.l0, if_pos c1, if_pos (show (0 : Int) ≤ (i : Int) by omega)]
      rw [List.drop_eq_getElem_cons (by omega)]
      simp (implicitDefEqProofs := false) only [Option.bind_some, e1, e2, e3, e4, Int.toNat_natCast, set_mid _ _ _ _ i (mL_len i 1), rd_mid _ _ _ i (mL_len i 1)]
    · rw [mL_succ, List.append_assoc] at h
      exact h
theorem heldLs_l : ∀ (n : Nat) (a : Int), 1 ≤ a → a + 3 * (n : Int) ≤ 100000000 → Ev (fun k => laws_heldLineS.l0 k (mL n a) a) (a + 3 * (n : Int))
  | 0, a, _, _ => evIs fun k => by simp [mL, laws_heldLineS.l0]
  | n + 1, a, h1, h2 => by
    have e1 : wrap64 (a + 1) = a + 1 := w64 (by omega) (by omega)
    have e2 : wrap64 (a + 1 + 1) = a + 2 := by rw [w64 (by omega) (by omega)]; omega
    have e3 : wrap64 (a + 2 + 1) = a + 3 := by rw [w64 (by omega) (by omega)]; omega
    have ih := heldLs_l n (a + 3) (by omega) (by omega)
    rw [show a + 3 + 3 * (n : Int) = a + 3 * ((n + 1 : Nat) : Int) by omega] at ih
    refine evThen (g := fun k => laws_markText.f k (a + 1)) (f := fun k t => if mT (a + 1) = t then (laws_markText.f k (a + 2)).bind fun u => if mT (a + 2) = u then laws_heldLineS.l0 k (mL n (a + 3)) (a + 3) else none else none) (mT_ev (a + 1) (by omega)) (fun k => ?_) ?_
    · show laws_heldLineS.l0 k (_ :: mL n (a + 3)) a = _
      rw [laws_heldLineS.l0]
      rw [if_pos rfl, e1, e2, e3]
    · simp only [if_true]
      refine evThen (mT_ev (a + 2) (by omega)) (fun k => rfl) ?_
      simp only [if_true]
      exact ih
theorem markHeld_ev (s : ByteArray) (l : List S106) (hl : l.length ≤ 1048576) : Ev (fun k => laws_markDevice.f k s l 1) (1 + 3 * (l.length : Int), mL l.length 1) ∧ ∀ s', Ev (fun k => laws_heldDevice.f k s' (mL l.length 1) 1) (1 + 3 * (l.length : Int)) := by
  constructor
  · have h := markLs_l l hl l.length 0 (by omega)
    refine evThen (g := fun k => laws_markLineS.f k l 1) (a := (1 + 3 * (l.length : Int), mL l.length 1)) ?_ (f := fun _ b => some (b.1, b.2)) (fun k => by unfold laws_markDevice.f; rfl) (Ev.now _)
    simpa [laws_markLineS.f, mL] using h
  · intro s'
    have h := heldLs_l l.length 1 (by omega) (by omega)
    refine evThen (g := fun k => laws_heldLineS.f k (mL l.length 1) 1) (a := 1 + 3 * (l.length : Int)) ?_ (f := fun _ t => if t < 0 then some (-1) else some t) (fun k => by unfold laws_heldDevice.f; rfl) ?_
    · simpa [laws_heldLineS.f] using h
    · rw [if_neg (by omega)]; exact Ev.now _
theorem sIn (a b c : Int) : spec_l1In.f a b c = some (decide (b ≤ a ∧ a ≤ c)) := by
  unfold spec_l1In.f
  by_cases h : a ≥ b
  · rw [if_pos h]; congr 1; rw [decide_eq_decide]; omega
  · rw [if_neg h]; congr 1; symm; rw [decide_eq_false_iff_not]; omega
theorem ok_at (s : ByteArray) (i : Nat) (h : i < s.size) (h' : i < s.data.toList.length) : impl_isType.ok (s.data.toList[i]) = (decide (bt s (i : Int) = 105) || decide (bt s (i : Int) = 114)) := by
  have e : bt s (i : Int) = ((s.data.toList[i]).toNat : Int) := by
    rw [← bt_at s (i : Int) (by rw [Int.toNat_natCast]; exact h)]
    simp only [Int.toNat_natCast, Array.getElem_toList]; rfl
  rw [e]
  generalize s.data.toList[i] = b
  unfold impl_isType.ok
  have g : ∀ n : UInt8, (b == n) = decide ((b.toNat : Int) = (n.toNat : Int)) := by
    intro n
    by_cases hb : b = n
    · subst hb; simp
    · have : ¬ ((b.toNat : Int) = (n.toNat : Int)) := fun q => hb (UInt8.toNat_inj.1 (by omega))
      simp [hb, this]
  rw [g 105, g 114]; rfl
theorem sTyp_l (s : ByteArray) (hs : s.size ≤ 9223372036854775807) : ∀ (n i : Nat), i + n = s.size → Ev (fun k => spec_l3Type.l0 k s (i : Int)) (decide (1 ≤ (s.size : Int) ∧ (s.size : Int) ≤ 23) && (s.data.toList.drop i).all impl_isType.ok) := by
  intro n
  have hl : s.data.toList.length = s.size := Array.length_toList
  induction n with
  | zero =>
    intro i hi
    refine evIs1 fun k => ?_
    simp only [spec_l3Type.l0]
    rw [if_neg (by omega), sIn, Option.bind_some, List.drop_eq_nil_iff.2 (by omega), List.all_nil, Bool.and_true]
  | succ n ih =>
    intro i hi
    have ih := ih (i + 1) (by omega)
    have hil : i < s.data.toList.length := by omega
    have e := ok_at s i (by omega) hil
    rw [List.drop_eq_getElem_cons hil, List.all_cons, e]
    by_cases c1 : bt s (i : Int) = 105
    · rw [decide_eq_true c1, Bool.true_or, Bool.true_and]
      refine Ev.step (f := fun k => spec_l3Type.l0 k s ((i + 1 : Nat) : Int)) (fun k => ?_) ih
      simp only [spec_l3Type.l0]
      rw [if_pos (by omega), if_pos (by omega), if_pos c1, w64 (by omega) (by omega)]; rfl
    · by_cases c2 : bt s (i : Int) = 114
      · rw [decide_eq_true c2, Bool.or_true, Bool.true_and]
        refine Ev.step (f := fun k => spec_l3Type.l0 k s ((i + 1 : Nat) : Int)) (fun k => ?_) ih
        simp only [spec_l3Type.l0]
        rw [if_pos (by omega), if_pos (by omega), if_neg c1, if_pos c2, w64 (by omega) (by omega)]; rfl
      · rw [decide_eq_false c1, decide_eq_false c2, Bool.or_false, Bool.false_and, Bool.and_false]
        refine evIs1 fun k => ?_
        simp only [spec_l3Type.l0]
        rw [if_pos (by omega), if_pos (by omega), if_neg c1, if_neg c2]
theorem sTyp (s : ByteArray) (hs : s.size ≤ 9223372036854775807) : Ev (fun k => spec_l3Type.f k s) (impl_isType.g s) :=
  Ev.congr (fun k => rfl) (sTyp_l s hs s.size 0 (by omega))
theorem sTys_l (l : List ByteArray) (hl : l.length ≤ 9223372036854775807) (hx : ∀ s ∈ l, s.size ≤ 9223372036854775807) : ∀ (n i : Nat), i + n = l.length → Ev (fun k => spec_TypesOk.l0 k l (i : Int)) ((l.drop i).all impl_isType.g) := by
  intro n
  induction n with
  | zero =>
    intro i hi
    exact evIs1 (fun k => by simp only [spec_TypesOk.l0]; rw [if_neg (by omega), List.drop_eq_nil_iff.2 (by omega)]; rfl)
  | succ n ih =>
    intro i hi
    have hil : i < l.length := by omega
    have ih := ih (i + 1) (by omega)
    have ht := sTyp l[i] (hx _ (List.getElem_mem hil))
    rw [List.drop_eq_getElem_cons hil, List.all_cons]
    refine Ev.step (f := fun k => (spec_l3Type.f k l[i]).bind fun t => if t = true then spec_TypesOk.l0 k l ((i + 1 : Nat) : Int) else some false) (fun k => ?_) ?_
    · simp only [spec_TypesOk.l0]
      rw [if_pos (by omega), if_pos (by omega), rdS l i hil, w64 (by omega) (by omega)]; rfl
    · refine evThen ht (fun k => rfl) ?_
      by_cases c : impl_isType.g l[i] = true
      · rw [c, Bool.true_and]; simp only [if_true]; exact ih
      · rw [Bool.eq_false_iff.2 c, Bool.false_and]; exact evIs fun k => rfl
theorem sTys (l : List ByteArray) (hl : l.length ≤ 9223372036854775807) (hx : ∀ s ∈ l, s.size ≤ 9223372036854775807) : Ev (fun k => spec_TypesOk.f k l) (impl_TypesOk.g l) := by
  have e : ∀ k, spec_TypesOk.f k l = if (decide (1 ≤ (l.length : Int) ∧ (l.length : Int) ≤ 12)) = true then spec_TypesOk.l0 k l 0 else some false := fun k => by
    unfold spec_TypesOk.f; rw [sIn, Option.bind_some]
  unfold impl_TypesOk.g
  by_cases c : 1 ≤ (l.length : Int) ∧ (l.length : Int) ≤ 12
  · rw [decide_eq_true c, Bool.true_and]
    refine Ev.congr (fun k => ?_) (sTys_l l hl hx l.length 0 (by omega))
    rw [e k, decide_eq_true c, if_pos rfl]; rfl
  · rw [decide_eq_false c, Bool.false_and]
    exact evIs fun k => by rw [e k, decide_eq_false c]; rfl
def cfgB (a b c : Int) : Bool := decide ((8 ≤ a ∧ a ≤ 128) ∧ (1 ≤ b ∧ b ≤ 32) ∧ b ≤ a - 5 ∧ (2 ≤ c ∧ c ≤ 400))
def cfgP (a b c : Int) (l : List ByteArray) : Bool := cfgB a b c && impl_TypesOk.g l
theorem cfgB_no {a b c : Int} (h : ¬ ((8 ≤ a ∧ a ≤ 128) ∧ (1 ≤ b ∧ b ≤ 32) ∧ b ≤ a - 5 ∧ (2 ≤ c ∧ c ≤ 400))) : cfgB a b c = false := decide_eq_false h
theorem cfgP_of {a b c : Int} {l : List ByteArray} (h : cfgP a b c l = true) : ((8 ≤ a ∧ a ≤ 128) ∧ (1 ≤ b ∧ b ≤ 32) ∧ b ≤ a - 5 ∧ (2 ≤ c ∧ c ≤ 400)) ∧ impl_TypesOk.g l = true := by
  unfold cfgP cfgB at h; rw [Bool.and_eq_true, decide_eq_true_eq] at h; exact h
theorem sCfg_eq (a b c : Int) (l : List ByteArray) (k : Nat) : spec_ConfigOk.f k a b c l = if cfgB a b c = true then spec_TypesOk.f k l else some false := by
  unfold spec_ConfigOk.f
  rw [sIn, Option.bind_some]
  by_cases c1 : 8 ≤ a ∧ a ≤ 128
  · rw [decide_eq_true c1, if_pos rfl, sIn, Option.bind_some]
    by_cases c2 : 1 ≤ b ∧ b ≤ 32
    · rw [decide_eq_true c2, if_pos rfl, w64 (by omega) (by omega)]
      by_cases c3 : b ≤ a - 5
      · rw [if_pos c3, sIn, Option.bind_some]
        by_cases c4 : 2 ≤ c ∧ c ≤ 400
        · rw [decide_eq_true c4, if_pos rfl, if_pos (show cfgB a b c = true from decide_eq_true ⟨c1, c2, c3, c4⟩)]
          cases spec_TypesOk.f k l <;> rfl
        · rw [decide_eq_false c4, if_neg (by decide), cfgB_no (fun h => c4 h.2.2.2), if_neg (by decide)]
      · rw [if_neg c3, cfgB_no (fun h => c3 h.2.2.1), if_neg (by decide)]
    · rw [decide_eq_false c2, if_neg (by decide), cfgB_no (fun h => c2 h.2.1), if_neg (by decide)]
  · rw [decide_eq_false c1, if_neg (by decide), cfgB_no (fun h => c1 h.1), if_neg (by decide)]
theorem sCfg (a b c : Int) (l : List ByteArray) (hl : l.length ≤ 9223372036854775807) (hx : ∀ s ∈ l, s.size ≤ 9223372036854775807) : Ev (fun k => spec_ConfigOk.f k a b c l) (cfgP a b c l) := by
  unfold cfgP
  by_cases h : cfgB a b c = true
  · rw [h, Bool.true_and]; exact Ev.congr (fun k => by rw [sCfg_eq, if_pos h]) (sTys l hl hx)
  · rw [Bool.eq_false_iff.2 h, Bool.false_and]; exact evIs fun k => by rw [sCfg_eq, if_neg h]
theorem xorN (a b : Nat) (ha : a < 4294967296) (hb : b < 4294967296) : Go.bits .xor .u32 (a : Int) (b : Int) = ((a ^^^ b : Nat) : Int) := by
  have hx : a ^^^ b < 2 ^ 32 := Nat.xor_lt_two_pow (by omega) (by omega)
  show IntKind.u32.wrap (((BitVec.ofInt 32 (a : Int) ^^^ BitVec.ofInt 32 (b : Int)).toNat : Nat) : Int) = _
  rw [BitVec.toNat_xor, BitVec.ofInt_natCast, BitVec.ofInt_natCast, BitVec.toNat_ofNat, BitVec.toNat_ofNat, Nat.mod_eq_of_lt (by omega : a < 2 ^ 32), Nat.mod_eq_of_lt (by omega : b < 2 ^ 32), IntKind.wrap_u32]
  omega
theorem xor_lt (a b : Nat) (ha : a < 4294967296) (hb : b < 4294967296) : a ^^^ b < 4294967296 := Nat.xor_lt_two_pow (n := 32) (by omega) (by omega)
theorem and1 (c : Nat) (h : c < 4294967296) : Go.bits .and .u32 (c : Int) 1 = ((c % 2 : Nat) : Int) := by
  have e := bits_mask .u32 32 (by decide) (fun n h0 h1 => by rw [IntKind.wrap_u32]; omega) 1 (by decide) (c : Int) (by omega) (by omega)
  simpa using e
/-- one bit of the checksum -/
def crcBit (c : Nat) : Nat := if c % 2 = 1 then (c / 2) ^^^ 3988292384 else c / 2
def crcBits : Nat → Nat → Nat
  | 0, c => c
  | n + 1, c => crcBits n (crcBit c)
theorem crcBit_lt {c : Nat} (h : c < 4294967296) : crcBit c < 4294967296 := by
  unfold crcBit; split
  · exact xor_lt _ _ (by omega) (by omega)
  · omega
theorem crcBits_lt : ∀ (n : Nat) {c : Nat}, c < 4294967296 → crcBits n c < 4294967296
  | 0, _, h => h
  | n + 1, _, h => crcBits_lt n (crcBit_lt h)
/-- a byte, as a number -/
def btN (s : ByteArray) (i : Nat) : Nat := (bt s i).toNat
theorem btN_le (s : ByteArray) (i : Nat) : btN s i ≤ 255 := by have := bt_range s i; unfold btN; omega
theorem btN_cast (s : ByteArray) (i : Nat) : ((btN s i : Nat) : Int) = bt s i := by have := bt_range s i; unfold btN; omega
/-- the state behind the first n bytes -/
def crcAt (s : ByteArray) : Nat → Nat
  | 0 => 4294967295
  | n + 1 => crcBits 8 (crcAt s n ^^^ btN s n)
theorem crcAt_lt (s : ByteArray) : ∀ n, crcAt s n < 4294967296
  | 0 => by show 4294967295 < 4294967296; omega
  | n + 1 => crcBits_lt 8 (xor_lt _ _ (crcAt_lt s n) (by have := btN_le s n; omega))
def crcNum (s : ByteArray) : Nat := 4294967295 ^^^ crcAt s s.size
theorem crcNum_lt (s : ByteArray) : crcNum s < 4294967296 := xor_lt _ _ (by omega) (crcAt_lt s _)
def four (x : Int) : List Int := [x / 16777216 % 256, x / 65536 % 256, x / 256 % 256, x % 256]
def crcStr (s : ByteArray) : ByteArray := strOfNums (four (crcNum s))
theorem crcStr_size (s : ByteArray) : (crcStr s).size = 4 := by rw [crcStr, strOfNums_size]; rfl
/-- so many zero bytes -/
def zs (n : Nat) : ByteArray := strOfNums (List.replicate n 0)
theorem zs_size (n : Nat) : (zs n).size = n := by rw [zs, strOfNums_size]; simp
/-- what a string is sealed as -/
def pad (s : ByteArray) : ByteArray := s ++ zs (60 - s.size)
theorem pad_size (s : ByteArray) (h : s.size ≤ 60) : (pad s).size = 60 := by rw [pad, ByteArray.size_append, zs_size]; omega
def sealedP (s : ByteArray) : ByteArray := if 60 < s.size then (⟨#[]⟩ : ByteArray) else pad s ++ crcStr (pad s)
theorem sealedP_size (s : ByteArray) (h : s.size ≤ 60) : (sealedP s).size = 64 := by
  unfold sealedP; rw [if_neg (by omega), ByteArray.size_append, pad_size s h, crcStr_size]
theorem sZeros (n : Nat) (h : n ≤ 281474976710656) : spec_l1Zeros.f (n : Int) = some (zs n) := by
  unfold spec_l1Zeros.f; rw [if_pos (by omega), if_pos (by omega)]; rfl
theorem sCrc_in (s : ByteArray) (x4 : Int) (r : ByteArray) : ∀ (d j c : Nat), j + d = 8 → c < 4294967296 → Ev (fun k => spec_l1Crc.l0 k s (crcBits d c : Nat) (wrap64 (x4 + 1))) r → Ev (fun k => spec_l1Crc.l1 k s (c : Nat) x4 j) r := by
  intro d
  induction d with
  | zero =>
    intro j c hj hc h
    refine Ev.step (f := fun k => spec_l1Crc.l0 k s (c : Nat) (wrap64 (x4 + 1))) (fun k => ?_) h
    simp only [spec_l1Crc.l1]; rw [if_neg (by omega)]
  | succ d ih =>
    intro j c hj hc h
    refine Ev.step (f := fun k => spec_l1Crc.l1 k s (crcBit c : Nat) x4 ((j + 1 : Nat) : Int)) (fun k => ?_) (ih (j + 1) (crcBit c) (by omega) (crcBit_lt hc) h)
    simp only [spec_l1Crc.l1]; rw [if_pos (by omega), w64 (n := (j : Int) + 1) (by omega) (by omega)]
    have e2 : ((c : Int) / 2) = ((c / 2 : Nat) : Int) := by omega
    have e1 : Int.tmod (c : Int) 2 = ((c % 2 : Nat) : Int) := by rw [Int.tmod_eq_emod_of_nonneg (by omega)]; omega
    rw [e1, e2]
    unfold crcBit
    by_cases h1 : c % 2 = 1
    · rw [if_pos (by omega), if_pos h1, show (3988292384 : Int) = ((3988292384 : Nat) : Int) from rfl, xorN _ _ (by omega) (by omega)]; rfl
    · rw [if_neg (by omega), if_neg h1]; rfl
theorem sCrc_out (s : ByteArray) (hs : s.size ≤ 4611686018427387904) : ∀ (d i : Nat), i + d = s.size → Ev (fun k => spec_l1Crc.l0 k s (crcAt s i : Nat) i) (crcStr s) := by
  intro d
  induction d with
  | zero =>
    intro i hi
    refine Ev.step (f := fun _ => some (crcStr s)) (fun k => ?_) (Ev.now _)
    simp only [spec_l1Crc.l0]; rw [if_neg (by omega)]
    obtain rfl : i = s.size := by omega
    rw [show (4294967295 : Int) = ((4294967295 : Nat) : Int) from rfl, xorN _ _ (by omega) (crcAt_lt s _)]; rfl
  | succ d ih =>
    intro i hi
    have hb := btN_le s i
    refine Ev.step (f := fun k => spec_l1Crc.l1 k s ((crcAt s i ^^^ btN s i : Nat) : Int) i ((0 : Nat) : Int)) (fun k => ?_) ?_
    · simp only [spec_l1Crc.l0]; rw [if_pos (by omega), if_pos (by omega), ← btN_cast, show ((btN s i : Nat) : Int) % 4294967296 = (btN s i : Nat) by omega, xorN _ _ (crcAt_lt s i) (by omega)]; rfl
    · refine sCrc_in s i _ 8 0 _ rfl (xor_lt _ _ (crcAt_lt s i) (by omega)) ?_
      have := ih (i + 1) (by omega)
      rw [w64 (n := (i : Int) + 1) (by omega) (by omega)]
      exact this
theorem sCrc (s : ByteArray) (hs : s.size ≤ 4611686018427387904) : Ev (fun k => spec_l1Crc.f k s) (crcStr s) := by
  refine Ev.congr (fun k => ?_) (sCrc_out s hs s.size 0 (by omega))
  rfl
theorem sSealed (s : ByteArray) (hs : s.size ≤ 4611686018427387904) : Ev (fun k => spec_Sealed.f k s) (sealedP s) := by
  by_cases h : (s.size : Int) > 60
  · refine evIs fun k => ?_
    unfold spec_Sealed.f sealedP; rw [if_pos h, if_pos (by omega)]
  · have hz := pad_size s (by omega)
    have e : ∀ k, spec_Sealed.f k s = (spec_l1Crc.f k (pad s)).bind fun t => (if (pad s).size + t.size ≤ 9223372036854775807 then some (pad s ++ t) else none) := by
      intro k
      unfold spec_Sealed.f
      rw [if_neg h, w64 (by omega) (by omega), show (60 : Int) - (s.size : Int) = ((60 - s.size : Nat) : Int) by omega, sZeros _ (by omega)]
      simp only [Option.bind_some]
      rw [if_pos (by rw [zs_size]; omega)]; rfl
    refine evThen (sCrc (pad s) (by omega)) e (evIs fun k => ?_)
    rw [if_pos (by rw [hz, crcStr_size]; omega)]
    unfold sealedP; rw [if_neg (by omega)]
def wbx (x : Int) : List Int := [x / 72057594037927936 % 256, x / 281474976710656 % 256, x / 1099511627776 % 256, x / 4294967296 % 256, x / 16777216 % 256, x / 65536 % 256, x / 256 % 256, x % 256]
def wb (a : Int) : ByteArray := strOfNums (wbx (a % 18446744073709551616))
theorem wb_size (a : Int) : (wb a).size = 8 := by rw [wb, strOfNums_size]; rfl
theorem bt_strOfNums (xs : List Int) (h : ∀ x ∈ xs, 0 ≤ x ∧ x ≤ 255) (i : Nat) (hi : i < xs.length) : bt (strOfNums xs) i = xs[i] := by
  have e := bt_at (strOfNums xs) i (by rw [strOfNums_size]; simpa using hi)
  rw [← e]
  have hx := h xs[i] (List.getElem_mem hi)
  simp only [strOfNums, ByteArray.getElem_eq_getElem_data]
  simp
  omega
theorem sWB (k : Nat) (a0 : Int) : spec_WordBytes.f (k + 9) a0 = some (wb a0) := by
  unfold spec_WordBytes.f
  simp (config := {maxSteps := 1000000}) [spec_WordBytes.l0, wrap64, u64, List.replicate, shr, IntKind.bits, wb, wbx]
theorem sWB_ev (a0 : Int) : Ev (fun k => spec_WordBytes.f k a0) (wb a0) := ⟨9, fun k hk => by
  obtain ⟨m, rfl⟩ : ∃ m, k = m + 9 := ⟨k - 9, by omega⟩
  exact sWB m a0⟩
theorem orNat (X b : Nat) (hb : b < 256) : (X * 256) ||| b = X * 256 + b := by
  have h := Nat.two_pow_add_eq_or_of_lt (i := 8) (b := b) (by omega) X
  rw [show 2 ^ 8 * X = X * 256 by omega] at h
  exact h.symm
theorem ofInt_toNat64 (z : Int) : (BitVec.ofInt 64 z).toNat = (z % 18446744073709551616).toNat := by
  rw [BitVec.toNat_ofInt]; rfl
theorem bitsOr (k : IntKind) (hk : k.bits = 64) (z w b : Int) (hz : z % 18446744073709551616 = (w * 256) % 18446744073709551616) (hb : 0 ≤ b) (hb1 : b ≤ 255) :
    Go.bits .or k z b = k.wrap ((w * 256) % 18446744073709551616 + b) := by
  unfold Go.bits
  rw [hk]
  simp only [BitVec.toNat_or, ofInt_toNat64, hz]
  have e : ((w * 256) % 18446744073709551616).toNat = (w % 72057594037927936).toNat * 256 := by omega
  have e2 : (b % 18446744073709551616).toNat = b.toNat := by omega
  rw [e, e2, orNat _ _ (by omega)]
  congr 1; omega
theorem orW (x b : Int) (hb : 0 ≤ b) (hb1 : b ≤ 255) : Go.bits .or .i64 (wrap64 (x * 256)) b = wrap64 (x * 256 + b) := by
  rw [bitsOr .i64 rfl _ x b (by unfold wrap64; omega) hb hb1, IntKind.wrap_i64]; unfold wrap64; omega
theorem orU (x b : Int) (hb : 0 ≤ b) (hb1 : b ≤ 255) : Go.bits .or .u64 ((x * 256) % 18446744073709551616) b = (x * 256 + b) % 18446744073709551616 := by
  rw [bitsOr .u64 rfl _ x b (by omega) hb hb1, u64]; omega
/-- the number that n bytes tell, the highest one first -/
def hn (s : ByteArray) (i : Int) : Nat → Int
  | 0 => 0
  | n + 1 => hn s i n * 256 + bt s (i + n)
def wordP (s : ByteArray) (i : Int) : Int := wrap64 (hn s i 8)
/-- two bytes -/
def sb (n : Int) : ByteArray := if 0 ≤ n ∧ n ≤ 65535 then strOfNums [n / 256 % 256, n % 256] else (⟨#[]⟩ : ByteArray)
theorem cut6 (a b c d e f g h : Int) : (strOfNums [a, b, c, d, e, f, g, h]).extract 6 (strOfNums [a, b, c, d, e, f, g, h]).size = strOfNums [g, h] := by
  apply ByteArray.ext
  simp [strOfNums, ByteArray.size]
theorem or8 (a b : Int) (ha : 0 ≤ a) (ha1 : a ≤ 255) (hb : 0 ≤ b) (hb1 : b ≤ 255) : Go.bits .or .i64 (a * 256) b = a * 256 + b :=
  bits_join .i64 63 (by decide) (fun n h0 h1 => by rw [IntKind.wrap_i64]; omega) 8 _ _ (by omega) (by omega) (by omega) hb (by omega) (by omega)
theorem ext_bt {s t : ByteArray} (h : s.size = t.size) (hb : ∀ i : Nat, i < s.size → bt s i = bt t i) : s = t := by
  apply ByteArray.ext
  apply Array.ext h
  intro i h1 h2
  have e := hb i h1
  rw [← bt_at s i (by simpa using h1), ← bt_at t i (by simpa using h2)] at e
  have e2 : (s[i]'h1).toNat = (t[i]'h2).toNat := by
    have : ((s[(i : Int).toNat]'(by simpa using h1)).toNat : Int) = ((t[(i : Int).toNat]'(by simpa using h2)).toNat : Int) := e
    simp only [Int.toNat_natCast] at this
    omega
  exact UInt8.toNat_inj.mp e2
theorem rs_sb (n : Int) (h : 0 ≤ n ∧ n ≤ 65535) : (sb n).size = 2 ∧ bt (sb n) 0 * 256 + bt (sb n) 1 = n := by
  have hr : ∀ x ∈ ([n / 256 % 256, n % 256] : List Int), 0 ≤ x ∧ x ≤ 255 := by intro x hx; simp at hx; omega
  have e0 := bt_strOfNums _ hr 0 (by simp)
  have e1 := bt_strOfNums _ hr 1 (by simp)
  unfold sb; rw [if_pos h]
  refine ⟨by rw [strOfNums_size]; rfl, ?_⟩
  have e0' : bt (strOfNums [n / 256 % 256, n % 256]) 0 = n / 256 % 256 := e0
  have e1' : bt (strOfNums [n / 256 % 256, n % 256]) 1 = n % 256 := e1
  rw [e0', e1']; omega
theorem toList_inj {s t : ByteArray} : s.toList = t.toList ↔ s = t := by
  rw [ByteArray.toList_eq, ByteArray.toList_eq]
  exact ⟨fun h => ByteArray.ext (Array.toList_inj.mp h), fun h => by rw [h]⟩
theorem bt_extract (s : ByteArray) (a b : Nat) (i : Int) (h0 : 0 ≤ i) (hi : a + i < b) (hb : b ≤ s.size) : bt (s.extract a b) i = bt s (a + i) := by
  have h1 : i.toNat < (s.extract a b).size := by rw [ByteArray.size_extract]; omega
  have h2 : ((a : Int) + i).toNat < s.size := by omega
  rw [← bt_at _ i h1, ← bt_at s (a + i) h2]
  have e : ((a : Int) + i).toNat = a + i.toNat := by omega
  simp only [ByteArray.getElem_eq_getElem_data, ByteArray.data_extract, Array.getElem_extract, e]
theorem bt_append_l (s t : ByteArray) (i : Int) (h0 : 0 ≤ i) (hi : i < s.size) : bt (s ++ t) i = bt s i := by
  have h1 : i.toNat < (s ++ t).size := by rw [ByteArray.size_append]; omega
  have h2 : i.toNat < s.size := by omega
  rw [← bt_at _ i h1, ← bt_at s i h2]
  simp only [ByteArray.getElem_eq_getElem_data, ByteArray.data_append]
  rw [Array.getElem_append_left]
theorem bt_append_r (s t : ByteArray) (i : Int) (h0 : s.size ≤ i) (hi : i < s.size + t.size) : bt (s ++ t) i = bt t (i - s.size) := by
  have h1 : i.toNat < (s ++ t).size := by rw [ByteArray.size_append]; omega
  have h2 : (i - s.size).toNat < t.size := by omega
  rw [← bt_at _ i h1, ← bt_at t _ h2]
  have e : (i - (s.size : Int)).toNat = i.toNat - s.data.size := by show _ = i.toNat - s.size; omega
  simp only [ByteArray.getElem_eq_getElem_data, ByteArray.data_append, e]
  rw [Array.getElem_append_right (by show s.size ≤ _; omega)]
theorem hn_congr (s t : ByteArray) (i j : Int) : ∀ n : Nat, (∀ m : Nat, m < n → bt s (i + m) = bt t (j + m)) → hn s i n = hn t j n
  | 0, _ => rfl
  | n + 1, h => by rw [hn, hn, hn_congr s t i j n (fun m hm => h m (by omega)), h n (by omega)]
theorem wordP_congr (s t : ByteArray) (i j : Int) (h : ∀ m : Nat, m < 8 → bt s (i + m) = bt t (j + m)) : wordP s i = wordP t j := by
  unfold wordP; rw [hn_congr s t i j 8 h]
theorem wordP_extract (s : ByteArray) (a b : Nat) (i : Int) (h0 : 0 ≤ i) (hi : a + i + 8 ≤ b) (hb : b ≤ s.size) : wordP (s.extract a b) i = wordP s (a + i) :=
  wordP_congr _ _ _ _ (fun m hm => by rw [bt_extract s a b _ (by omega) (by omega) hb]; congr 1; omega)
theorem extract_extract (s : ByteArray) (a b c d : Nat) (h : a + d ≤ b) : (s.extract a b).extract c d = s.extract (a + c) (a + d) := by
  apply ByteArray.ext
  simp only [ByteArray.data_extract, Array.extract_extract]
  congr 1; omega
theorem extract_append_l (s t : ByteArray) (b : Nat) (h : b ≤ s.size) : (s ++ t).extract 0 b = s.extract 0 b := by
  refine ext_bt (by rw [ByteArray.size_extract, ByteArray.size_extract, ByteArray.size_append]; omega) (fun i hi => ?_)
  rw [ByteArray.size_extract, ByteArray.size_append] at hi
  rw [bt_extract _ _ _ _ (by omega) (by omega) (by rw [ByteArray.size_append]; omega), bt_extract _ _ _ _ (by omega) (by omega) h, bt_append_l _ _ _ (by omega) (by omega)]
theorem extract_all (s : ByteArray) (b : Nat) (h : s.size ≤ b) : s.extract 0 b = s := by
  refine ext_bt (by rw [ByteArray.size_extract]; omega) (fun i hi => ?_)
  rw [ByteArray.size_extract] at hi
  apply congrFun (congrArg bt ?_)
  apply ByteArray.ext
  simp only [ByteArray.data_extract]
  exact Array.extract_eq_self_of_le (by show s.size ≤ b; exact h)
theorem extract_append_r (s t : ByteArray) (b : Nat) (h : s.size + t.size ≤ b) : (s ++ t).extract s.size b = t := by
  refine ext_bt (by rw [ByteArray.size_extract, ByteArray.size_append]; omega) (fun i hi => ?_)
  rw [ByteArray.size_extract, ByteArray.size_append] at hi
  have e : (s ++ t).extract s.size b = (s ++ t).extract s.size (s.size + t.size) := by
    apply ByteArray.ext
    simp only [ByteArray.data_extract]
    rw [Array.extract_eq_extract_right]
    have z : (s.data ++ t.data).size = s.size + t.size := by rw [Array.size_append]; rfl
    rw [← ByteArray.data_append] at z
    rw [z]; omega
  rw [e, bt_extract _ _ _ _ (by omega) (by omega) (by rw [ByteArray.size_append]; omega), bt_append_r _ _ _ (by omega) (by omega)]
  congr 1; omega
/-- what is sealed, opened again -/
def unsP (s : ByteArray) : ByteArray × Bool := if s.size = 64 ∧ crcStr (s.extract 0 60) = s.extract 60 s.size then (s.extract 0 60, true) else ((⟨#[]⟩ : ByteArray), false)
theorem sealed_head (t : ByteArray) (h : t.size ≤ 60) : (sealedP t).extract 0 60 = pad t := by
  unfold sealedP; rw [if_neg (by omega), extract_append_l _ _ _ (by rw [pad_size t h]; omega), extract_all _ _ (by rw [pad_size t h]; omega)]
theorem sealed_tail (t : ByteArray) (h : t.size ≤ 60) : (sealedP t).extract 60 (sealedP t).size = crcStr (pad t) := by
  rw [sealedP_size t h]
  unfold sealedP; rw [if_neg (by omega)]
  have e := extract_append_r (pad t) (crcStr (pad t)) 64 (by rw [pad_size t h, crcStr_size]; omega)
  rw [pad_size t h] at e; exact e
theorem uns_sealed (t : ByteArray) (h : t.size ≤ 60) : unsP (sealedP t) = (pad t, true) := by
  unfold unsP; rw [sealed_head t h, sealed_tail t h, if_pos ⟨sealedP_size t h, rfl⟩]
def epochLineP (e : Int) : ByteArray := if 0 ≤ e ∧ e ≤ 1000000000 then sealedP (wb e) else (⟨#[]⟩ : ByteArray)
def readEpochP (s : ByteArray) : Int × Bool := if s.size = 64 ∧ epochLineP (wordP s 0) = s then (wordP s 0, true) else (0, false)
theorem sEL (e : Int) : Ev (fun k => spec_EpochLine.f k e) (epochLineP e) := by
  unfold spec_EpochLine.f
  simp only [sIn, Option.bind_some]
  by_cases h : 0 ≤ e ∧ e ≤ 1000000000
  · simp only [show decide (0 ≤ e ∧ e ≤ 1000000000) = true by simpa using h, if_true]
    refine evThen (sWB_ev e) (fun k => rfl) (evThen (sSealed (wb e) (by rw [wb_size]; omega)) (f := fun _ t => some t) (fun k => rfl) (evIs fun k => ?_))
    unfold epochLineP; rw [if_pos h]
  · simp only [show decide (0 ≤ e ∧ e ≤ 1000000000) = false by simpa using h, Bool.false_eq_true, if_false]
    refine evIs fun k => ?_
    unfold epochLineP; rw [if_neg h]
theorem sWl (s : ByteArray) (hs : (s.size : Int) = 8) (d : Nat) : ∀ (k j : Nat), j + d = 8 → d < k → spec_ReadWord.l0 k s (hn s 0 j % 18446744073709551616) j = some (wordP s 0, true) := by
  induction d with
  | zero =>
    intro k j hj hk
    obtain ⟨k, rfl⟩ : ∃ m, k = m + 1 := ⟨k - 1, by omega⟩
    obtain rfl : j = 8 := by omega
    simp only [spec_ReadWord.l0]; rw [if_neg (by omega)]
    unfold wordP; congr 2; unfold wrap64; omega
  | succ d ih =>
    intro k j hj hk
    obtain ⟨k, rfl⟩ : ∃ m, k = m + 1 := ⟨k - 1, by omega⟩
    have hb := bt_range s j
    simp only [spec_ReadWord.l0]; rw [if_pos (by omega), if_pos (by omega), if_pos (by omega), w64 (n := (j : Int) + 1) (by omega) (by omega)]
    have e : Go.bits .or .u64 (IntKind.u64.wrap (hn s 0 j % 18446744073709551616 * 256)) (IntKind.u64.wrap (bt s j)) = hn s 0 (j + 1) % 18446744073709551616 := by
      rw [u64, u64, show bt s j % 18446744073709551616 = bt s j by omega, orU _ _ hb.1 hb.2]
      simp only [hn, Int.zero_add]; omega
    rw [e]; exact ih k (j + 1) (by omega) (by omega)
theorem sRW8 (k : Nat) (s : ByteArray) (h : s.size = 8) : spec_ReadWord.f (k + 9) s = some (wordP s 0, true) := by
  have e1 := sWl s (by omega) 8 (k + 9) 0 (by omega) (by omega)
  simp only [hn, Int.zero_emod, show ((0 : Nat) : Int) = 0 from rfl] at e1
  unfold spec_ReadWord.f
  rw [if_pos (by omega), e1]
theorem sRW8_ev (s : ByteArray) (h : s.size = 8) : Ev (fun k => spec_ReadWord.f k s) (wordP s 0, true) := ⟨9, fun k hk => by
  obtain ⟨m, rfl⟩ : ∃ m, k = m + 9 := ⟨k - 9, by omega⟩
  exact sRW8 m s h⟩
theorem sRE (s : ByteArray) : Ev (fun k => spec_ReadEpoch.f k s) (readEpochP s) := by
  by_cases h : s.size = 64
  · have hx : (s.extract 0 8).size = 8 := by rw [ByteArray.size_extract]; omega
    have hw : wordP (s.extract 0 8) 0 = wordP s 0 := by have := wordP_extract s 0 8 0 (by omega) (by omega) (by omega); simpa using this
    refine evThen (sRW8_ev (s.extract 0 8) hx) (f := fun k bt127 => ((spec_EpochLine.f k bt127.1).bind fun t129 => (if t129.toList = s.toList then (some (bt127.1, true)) else (some (0, false))))) (fun k => ?_) ?_
    · unfold spec_ReadEpoch.f; rw [if_pos (by omega), if_pos (by omega), if_pos (by omega)]
    · refine evThen (sEL _) (fun k => rfl) (evIs fun k => ?_)
      simp only [hw]
      unfold readEpochP
      by_cases c : epochLineP (wordP s 0) = s
      · rw [if_pos (toList_inj.mpr c), if_pos ⟨h, c⟩]
      · rw [if_neg (fun z => c (toList_inj.mp z)), if_neg (fun z => c z.2)]
  · refine evIs fun k => ?_
    unfold spec_ReadEpoch.f readEpochP; rw [if_neg (by omega), if_neg (fun z => h z.1)]
def imgP (a b c : Int) (l : List ByteArray) (s : ByteArray) : Bool := cfgP a b c l && decide ((s.size : Int) = 64 * a)
def lineP (s : ByteArray) (n : Nat) : ByteArray := s.extract (64 * n) (64 * n + 64)
def epochOfP (a b c : Int) (l : List ByteArray) (s : ByteArray) : Int := if imgP a b c l s = true then (if (readEpochP (lineP s 1)).2 = true then (readEpochP (lineP s 1)).1 else -1) else -1
theorem imgP_of {a b c : Int} {l : List ByteArray} {s : ByteArray} (h : imgP a b c l s = true) : cfgP a b c l = true ∧ (s.size : Int) = 64 * a := by
  unfold imgP at h; rw [Bool.and_eq_true, decide_eq_true_eq] at h; exact h
theorem img_eq {a b c : Int} {l : List ByteArray} (s : ByteArray) (h : cfgP a b c l = true) : ((s.size : Int) == wrap64 (64 * a)) = decide ((s.size : Int) = 64 * a) := by
  obtain ⟨hc, _⟩ := cfgP_of h
  rw [w64 (by omega) (by omega)]
  by_cases e : (s.size : Int) = 64 * a
  · rw [decide_eq_true e, beq_iff_eq.mpr e]
  · rw [decide_eq_false e, beq_eq_false_iff_ne.mpr e]
theorem sImg (a b c : Int) (l : List ByteArray) (s : ByteArray) (hl : l.length ≤ 1048576) (hs : ∀ s ∈ l, s.size ≤ 9223372036854775807) : Ev (fun k => spec_l5Image.f k a b c l s) (imgP a b c l s) := by
  refine evThen (sCfg a b c l (by omega) hs) (fun k => rfl) (evIs fun k => ?_)
  unfold imgP
  by_cases h : cfgP a b c l = true
  · rw [if_pos h, img_eq s h, h, Bool.true_and]
  · rw [if_neg h, Bool.eq_false_iff.2 h, Bool.false_and]
theorem sLine (s : ByteArray) (n : Nat) (h : 64 * n + 64 ≤ s.size) (hs : s.size ≤ 1048576) : spec_l5Line.f s (n : Int) = some (lineP s n) := by
  unfold spec_l5Line.f lineP
  rw [w64 (n := 64 * (n : Int)) (by omega) (by omega), w64 (n := 64 * (n : Int) + 64) (by omega) (by omega), if_pos (by omega), if_pos (by omega), if_pos (by omega)]
  congr 2 <;> omega
theorem sEO (a b c : Int) (l : List ByteArray) (s : ByteArray) (hl : l.length ≤ 1048576) (hs : ∀ s ∈ l, s.size ≤ 9223372036854775807) (hz : s.size ≤ 1048576) : Ev (fun k => spec_EpochOf.f k a b c l s) (epochOfP a b c l s) := by
  refine evThen (sImg a b c l s hl hs) (fun k => rfl) ?_
  unfold epochOfP
  by_cases h : imgP a b c l s = true
  · obtain ⟨h1, h2⟩ := imgP_of h
    obtain ⟨hc, _⟩ := cfgP_of h1
    simp only [if_pos h]
    refine Ev.congr (fun k => by rw [show (1 : Int) = ((1 : Nat) : Int) from rfl, sLine s 1 (by omega) hz, Option.bind_some]) (evThen (sRE _) (fun k => rfl) (evIs fun k => ?_))
    split <;> rfl
  · simp only [if_neg h]; exact evIs fun k => rfl
theorem sSB (k : Nat) (n : Int) : spec_ShortBytes.f (k + 9) n = some (sb n) := by
  unfold spec_ShortBytes.f
  rw [sIn, sWB]; simp only [Option.bind_some, sb]
  by_cases h : 0 ≤ n ∧ n ≤ 65535
  · rw [if_pos (by simpa using h), if_pos h, if_pos (by rw [wb_size]; omega)]
    have e : n % 18446744073709551616 = n := by omega
    unfold wb; rw [e]; unfold wbx; rw [cut6]
  · rw [if_neg (by simpa using h), if_neg h]
theorem sSB_ev (n : Int) : Ev (fun k => spec_ShortBytes.f k n) (sb n) := ⟨9, fun k hk => by
  obtain ⟨m, rfl⟩ : ∃ m, k = m + 9 := ⟨k - 9, by omega⟩
  exact sSB m n⟩
def recBody (e q h : Int) (o : ByteArray) : ByteArray := ((((⟨#[85]⟩ : ByteArray) ++ strOfNums [q % 256]) ++ sb h) ++ wb e) ++ o
theorem one_sizeR (x : Int) : (strOfNums [x]).size = 1 := by rw [strOfNums_size]; rfl
theorem lit1_size (x : UInt8) : (⟨#[x]⟩ : ByteArray).size = 1 := rfl
theorem recBody_size (e q h : Int) (o : ByteArray) (hh : 0 ≤ h ∧ h ≤ 65535) : (recBody e q h o).size = 12 + o.size := by
  simp only [recBody, ByteArray.size_append, lit1_size, one_sizeR, (rs_sb h hh).1, wb_size]
def recLineP (e q h : Int) (o : ByteArray) : ByteArray := if (0 ≤ e ∧ e ≤ 999999999) ∧ (0 ≤ q ∧ q ≤ 31) ∧ (0 ≤ h ∧ h ≤ 255) ∧ o.size = 32 then sealedP (recBody e q h o) else (⟨#[]⟩ : ByteArray)
theorem recLineP_size (e q h : Int) (o : ByteArray) (c : (0 ≤ e ∧ e ≤ 999999999) ∧ (0 ≤ q ∧ q ≤ 31) ∧ (0 ≤ h ∧ h ≤ 255) ∧ o.size = 32) : (recLineP e q h o).size = 64 := by
  unfold recLineP; rw [if_pos c]; exact sealedP_size _ (by rw [recBody_size _ _ _ _ (by omega)]; omega)
def readRecP (s : ByteArray) : Int × Int × Int × ByteArray × Bool := if s.size = 64 ∧ recLineP (wordP s 4) (bt s 1) (bt s 2 * 256 + bt s 3) (s.extract 12 44) = s then (wordP s 4, bt s 1, bt s 2 * 256 + bt s 3, s.extract 12 44, true) else (0, 0, 0, (⟨#[]⟩ : ByteArray), false)
theorem bt_ext0 (s : ByteArray) (a b : Nat) (i : Nat) (h : a + i < b) (hb : b ≤ s.size) : bt (s.extract a b) i = bt s ((a + i : Nat) : Int) := by
  rw [bt_extract s a b i (by omega) (by omega) hb]; congr 1
theorem sRLj (e q h : Int) (o : ByteArray) (hh : 0 ≤ h ∧ h ≤ 255) (ho : o.size = 32) : Ev (fun k => spec_RecordLine.j0 k false e q h o) (sealedP (recBody e q h o)) := by
  have z1 := one_sizeR (q % 256)
  have z2 := (rs_sb h ⟨hh.1, by omega⟩).1
  have z3 := wb_size e
  have z4 := recBody_size e q h o (by omega)
  refine Ev.step (f := fun k => _) (fun k => by simp (implicitDefEqProofs := false) only [spec_RecordLine.j0, Bool.false_eq_true, if_false, Option.bind_some]; rfl) ?_
  simp only [if_pos (show 1 + (strOfNums [q % 256]).size ≤ 9223372036854775807 by omega)]
  refine evThen (sSB_ev h) (fun k => rfl) ?_
  simp only [if_pos (show ((⟨#[85]⟩ : ByteArray) ++ strOfNums [q % 256]).size + (sb h).size ≤ 9223372036854775807 by rw [ByteArray.size_append, lit1_size]; omega)]
  refine evThen (sWB_ev e) (fun k => rfl) ?_
  simp only [if_pos (show (((⟨#[85]⟩ : ByteArray) ++ strOfNums [q % 256]) ++ sb h).size + (wb e).size ≤ 9223372036854775807 by rw [ByteArray.size_append, ByteArray.size_append, lit1_size]; omega), if_pos (show ((((⟨#[85]⟩ : ByteArray) ++ strOfNums [q % 256]) ++ sb h) ++ wb e).size + o.size ≤ 9223372036854775807 by rw [ByteArray.size_append, ByteArray.size_append, ByteArray.size_append, lit1_size]; omega)]
  exact evThen (sSealed (recBody e q h o) (by omega)) (f := fun _ t => some t) (fun k => rfl) (Ev.now _)
theorem sRLt (e q h : Int) (o : ByteArray) : Ev (fun k => spec_RecordLine.j0 k true e q h o) (⟨#[]⟩ : ByteArray) :=
  Ev.step (f := fun _ => some _) (fun k => by simp only [spec_RecordLine.j0, if_true]) (Ev.now _)
theorem sRL (e q h : Int) (o : ByteArray) : Ev (fun k => spec_RecordLine.f k e q h o) (recLineP e q h o) := by
  unfold spec_RecordLine.f recLineP
  simp only [sIn, Option.bind_some]
  by_cases c1 : 0 ≤ e ∧ e ≤ 999999999
  · simp only [show decide (0 ≤ e ∧ e ≤ 999999999) = true by simpa using c1, if_true]
    by_cases c2 : 0 ≤ q ∧ q ≤ 31
    · simp only [show decide (0 ≤ q ∧ q ≤ 31) = true by simpa using c2, if_true]
      by_cases c3 : 0 ≤ h ∧ h ≤ 255
      · simp only [show decide (0 ≤ h ∧ h ≤ 255) = true by simpa using c3, if_true]
        by_cases c4 : o.size = 32
        · rw [if_pos ⟨c1, c2, c3, c4⟩]
          simp only [show ((o.size : Int) != 32) = false by simp; omega]
          exact sRLj e q h o c3 c4
        · rw [if_neg (fun z => c4 z.2.2.2)]
          simp only [show ((o.size : Int) != 32) = true by simp; omega]
          exact sRLt e q h o
      · rw [if_neg (fun z => c3 z.2.2.1)]
        simp only [show decide (0 ≤ h ∧ h ≤ 255) = false by simpa using c3, Bool.false_eq_true, if_false]
        exact sRLt e q h o
    · rw [if_neg (fun z => c2 z.2.1)]
      simp only [show decide (0 ≤ q ∧ q ≤ 31) = false by simpa using c2, Bool.false_eq_true, if_false]
      exact sRLt e q h o
  · rw [if_neg (fun z => c1 z.1)]
    simp only [show decide (0 ≤ e ∧ e ≤ 999999999) = false by simpa using c1, Bool.false_eq_true, if_false]
    exact sRLt e q h o
theorem sRS2 (s : ByteArray) (h : s.size = 2) : spec_ReadShort.f s = some (bt s 0 * 256 + bt s 1, true) := by
  unfold spec_ReadShort.f
  have h0 := bt_range s 0
  have h1 := bt_range s 1
  rw [if_pos (by omega), if_pos (by omega), if_pos (by omega), w64 (n := bt s 0) (by omega) (by omega), w64 (n := bt s 1) (by omega) (by omega), w64 (n := bt s 0 * 256) (by omega) (by omega), w64 (by omega) (by omega)]
theorem sRR (s : ByteArray) : Ev (fun k => spec_ReadRecord.f k s) (readRecP s) := by
  by_cases h : s.size = 64
  · have hx : (s.extract 4 12).size = 8 := by rw [ByteArray.size_extract]; omega
    have hy : (s.extract 2 4).size = 2 := by rw [ByteArray.size_extract]; omega
    have hw : wordP (s.extract 4 12) 0 = wordP s 4 := by have := wordP_extract s 4 12 0 (by omega) (by omega) (by omega); simpa using this
    have b2 : bt (s.extract 2 4) 0 = bt s 2 := bt_ext0 s 2 4 0 (by omega) (by omega)
    have b3 : bt (s.extract 2 4) 1 = bt s 3 := bt_ext0 s 2 4 1 (by omega) (by omega)
    have r1 := bt_range s 1
    refine evThen (sRW8_ev (s.extract 4 12) hx) (f := fun k bt129 => ((spec_RecordLine.f k bt129.1 (bt s 1) (bt s 2 * 256 + bt s 3) (s.extract 12 44)).bind fun t131 => (if t131.toList = s.toList then (some (bt129.1, bt s 1, bt s 2 * 256 + bt s 3, s.extract 12 44, true)) else (some (0, 0, 0, (⟨#[]⟩ : ByteArray), false))))) (fun k => ?_) ?_
    · unfold spec_ReadRecord.f
      rw [if_pos (by omega), if_pos (by omega), if_pos (by omega), if_pos (by omega), if_pos (by omega), if_pos (by omega), sRS2 _ hy]
      simp only [Option.bind_some]
      rw [if_pos (by omega), if_pos (by omega), b2, b3, w64 (n := bt s 1) (by omega) (by omega)]
    · refine evThen (sRL _ _ _ _) (fun k => rfl) (evIs fun k => ?_)
      simp only [hw]
      unfold readRecP
      by_cases c : recLineP (wordP s 4) (bt s 1) (bt s 2 * 256 + bt s 3) (s.extract 12 44) = s
      · rw [if_pos (toList_inj.mpr c), if_pos ⟨h, c⟩]
      · rw [if_neg (fun z => c (toList_inj.mp z)), if_neg (fun z => c z.2)]
  · refine evIs fun k => ?_
    unfold spec_ReadRecord.f readRecP; rw [if_neg (by omega), if_neg (fun z => h z.1)]
/-- a half that may be logged -/
def halfP (a b h : Int) : Bool := decide (h = 4 ∨ h = 5 ∨ (2 * (4 + b) ≤ h ∧ h ≤ 2 * a - 1))
def logL (e a b : Int) (m : ByteArray) : Nat → Nat → List S83 → List S83 × Bool
  | 0, _, out => (out, true)
  | n + 1, i, out =>
    if (readRecP (lineP m (4 + i))).2.2.2.2 = true then
      if (readRecP (lineP m (4 + i))).1 < e then logL e a b m n (i + 1) out
      else if e < (readRecP (lineP m (4 + i))).1 then ([], false)
      else if (out.length : Int) = (i : Int) then
        if (readRecP (lineP m (4 + i))).2.1 = (i : Int) then
          if halfP a b (readRecP (lineP m (4 + i))).2.2.1 = true then
            (if out.any (fun x => x.f2 == (readRecP (lineP m (4 + i))).2.2.1) = true then ([], false)
            else logL e a b m n (i + 1) (out ++ [⟨(readRecP (lineP m (4 + i))).1, (readRecP (lineP m (4 + i))).2.1, (readRecP (lineP m (4 + i))).2.2.1, (readRecP (lineP m (4 + i))).2.2.2.1⟩]))
          else ([], false)
        else ([], false)
      else ([], false)
    else logL e a b m n (i + 1) out
/-- the current records of an image -/
def logP (a b c : Int) (T : List ByteArray) (m : ByteArray) : List S83 × Bool := if epochOfP a b c T m < 0 then ([], false) else logL (epochOfP a b c T m) a b m b.toNat 0 []
theorem logL_len (e a b : Int) (m : ByteArray) : ∀ (n i : Nat) (out : List S83), out.length ≤ i → (logL e a b m n i out).1.length ≤ n + i
  | 0, i, out, h => by rw [logL]; show out.length ≤ _; omega
  | n + 1, i, out, h => by
    have ih := logL_len e a b m n (i + 1) out (by omega)
    have ih2 := fun y => logL_len e a b m n (i + 1) (out ++ [y]) (by rw [List.length_append]; simp; omega)
    rw [logL]
    repeat' split
    all_goals first | omega | exact Nat.zero_le _ | (have := ih2 _; omega) | (refine Nat.le_trans (ih2 _) (by omega))
theorem ep_img {a b c : Int} {T : List ByteArray} {m : ByteArray} (h : ¬ epochOfP a b c T m < 0) : imgP a b c T m = true := by
  by_cases g : imgP a b c T m = true
  · exact g
  · exact absurd (by unfold epochOfP; rw [if_neg g]; decide) h
theorem logP_len (a b c : Int) (T : List ByteArray) (m : ByteArray) : (logP a b c T m).1.length ≤ 32 := by
  unfold logP
  by_cases g : epochOfP a b c T m < 0
  · rw [if_pos g]; exact Nat.zero_le _
  · rw [if_neg g]
    obtain ⟨h1, _⟩ := imgP_of (ep_img g)
    obtain ⟨hc, _⟩ := cfgP_of h1
    have := logL_len (epochOfP a b c T m) a b m b.toNat 0 [] (Nat.zero_le _)
    omega
theorem sHalf {a b : Int} (c : Int) (T : List ByteArray) (ha : 0 ≤ a ∧ a ≤ 128) (hb : 0 ≤ b ∧ b ≤ 32) (h : Int) : spec_l5Half.f a b c T h = some (halfP a b h) := by
  unfold spec_l5Half.f
  rw [w64 (n := 4 + b) (by omega) (by omega), w64 (n := 2 * (4 + b)) (by omega) (by omega), w64 (n := 2 * a) (by omega) (by omega), w64 (n := 2 * a - 1) (by omega) (by omega), sIn, Option.bind_some]
  unfold halfP
  by_cases h1 : h = 4
  · simp [h1]
  · by_cases h2 : h = 5
    · simp [h2]
    · simp [h1, h2]
theorem sPlace_l (l : List S83) (h : Int) (hl : l.length ≤ 1000000) : ∀ (n i : Nat), i + n = l.length → ∃ q, Ev (fun k => spec_l5Place.l0 k l h (i : Int)) q ∧ decide (q ≥ 0) = (l.drop i).any (fun x => x.f2 == h) := by
  intro n
  induction n with
  | zero =>
    intro i hi
    obtain rfl : i = l.length := by omega
    exact ⟨-1, evIs1 (fun k => by simp only [spec_l5Place.l0]; rw [if_neg (by omega)]), by rw [List.drop_length]; rfl⟩
  | succ n ih =>
    intro i hi
    have hlt : i < l.length := by omega
    have er : rd_T83 l (i : Int) = l[i] := by simp [rd_T83, List.getD, hlt]
    rw [List.drop_eq_getElem_cons hlt, List.any_cons]
    by_cases c : (l[i]).f2 = h
    · refine ⟨(i : Int), evIs1 (fun k => by simp only [spec_l5Place.l0]; rw [if_pos (by omega), if_pos (by omega), er, if_pos c]), ?_⟩
      rw [beq_iff_eq.mpr c, decide_eq_true (by omega)]; rfl
    · obtain ⟨q, e, hq⟩ := ih (i + 1) (by omega)
      refine ⟨q, Ev.step (f := fun k => spec_l5Place.l0 k l h ((i + 1 : Nat) : Int)) (fun k => ?_) e, ?_⟩
      · simp only [spec_l5Place.l0]
        rw [if_pos (by omega), if_pos (by omega), er, if_neg c, w64 (by omega) (by omega)]; rfl
      · rw [hq, beq_eq_false_iff_ne.mpr c, Bool.false_or]
theorem sPlace (l : List S83) (h : Int) (hl : l.length ≤ 1000000) : ∃ q, Ev (fun k => spec_l5Place.f k l h) q ∧ decide (q ≥ 0) = l.any (fun x => x.f2 == h) := sPlace_l l h hl l.length 0 (by omega)
theorem sLog_l (e a b c : Int) (T : List ByteArray) (m : ByteArray) (ha : 0 ≤ a ∧ a ≤ 128) (hb : 0 ≤ b ∧ b ≤ 32) (hm : (m.size : Int) = 64 * a) (hba : b ≤ a - 5) : ∀ (n i : Nat) (out : List S83), i + n = b.toNat → out.length ≤ i → Ev (fun k => spec_LogOf.l0 k m e out (i : Int) a b c T) (logL e a b m n i out) := by
  intro n
  induction n with
  | zero =>
    intro i out hi _
    exact evIs1 (fun k => by simp only [spec_LogOf.l0]; rw [if_neg (by omega)]; rfl)
  | succ n ih =>
    intro i out hi ho
    have h0 := ih (i + 1) out (by omega) (by omega)
    have w4 : wrap64 (4 + (i : Int)) = ((4 + i : Nat) : Int) := by rw [w64 (by omega) (by omega)]; omega
    have w1 : wrap64 ((i : Int) + 1) = ((i + 1 : Nat) : Int) := by rw [w64 (by omega) (by omega)]; omega
    have ln := sLine m (4 + i) (by omega) (by omega)
    have J2t : ∀ (q0 q1 q2 : Int) (q3 : ByteArray), Ev (fun k => spec_LogOf.j2 k m e out (i : Int) true a b c T q0 q1 q2 q3) (logL e a b m n (i + 1) out) := fun q0 q1 q2 q3 =>
      Ev.step (f := fun k => spec_LogOf.l0 k m e out ((i + 1 : Nat) : Int) a b c T) (fun k => by simp only [spec_LogOf.j2]; rw [if_pos trivial, w1]) h0
    refine Ev.step (f := fun k => (spec_ReadRecord.f k (lineP m (4 + i))).bind fun bt => (if bt.2.2.2.2 = true then (spec_LogOf.j1 k m e out (i : Int) bt.2.2.2.2 (decide (bt.1 > e)) a b c T bt.1 bt.2.1 bt.2.2.1 bt.2.2.2.1) else (spec_LogOf.j1 k m e out (i : Int) bt.2.2.2.2 false a b c T bt.1 bt.2.1 bt.2.2.1 bt.2.2.2.1))) (fun k => by simp only [spec_LogOf.l0]; rw [if_pos (by omega), w4, ln, Option.bind_some]) ?_
    refine evThen (sRR (lineP m (4 + i))) (fun k => rfl) ?_
    rw [logL]
    generalize readRecP (lineP m (4 + i)) = r
    by_cases c1 : r.2.2.2.2 = true
    · simp only [if_pos c1]
      by_cases c3 : e < r.1
      · rw [if_neg (show ¬ r.1 < e by omega), if_pos c3]
        exact evIs1 (fun k => by simp only [spec_LogOf.j1]; rw [decide_eq_true (show r.1 > e from c3), if_pos rfl])
      · by_cases c2 : r.1 < e
        · rw [if_pos c2]
          exact Ev.step (f := fun k => spec_LogOf.j2 k m e out (i : Int) true a b c T r.1 r.2.1 r.2.2.1 r.2.2.2.1) (fun k => by simp only [spec_LogOf.j1]; rw [decide_eq_false (show ¬ r.1 > e by omega), if_neg (by decide), if_pos c1, bne_iff_ne.mpr (show r.1 ≠ e by omega)]) (J2t _ _ _ _)
        · rw [if_neg c2, if_neg c3]
          refine Ev.step (f := fun k => spec_LogOf.j2 k m e out (i : Int) false a b c T r.1 r.2.1 r.2.2.1 r.2.2.2.1) (fun k => by simp only [spec_LogOf.j1]; rw [decide_eq_false (show ¬ r.1 > e by omega), if_neg (by decide), if_pos c1, bne_eq_false_iff_eq.mpr (show r.1 = e by omega)]) ?_
          by_cases c4 : (out.length : Int) = (i : Int)
          · rw [if_pos c4]
            by_cases c5 : r.2.1 = (i : Int)
            · rw [if_pos c5]
              obtain ⟨q, hq, hqa⟩ := sPlace out r.2.2.1 (by omega)
              refine Ev.step (f := fun k => if halfP a b r.2.2.1 = true then ((spec_l5Place.f k out r.2.2.1).bind fun t197 => (if t197 ≥ 0 then (some (([] : List S83), false)) else (if out.length < 3518437208883 then (spec_LogOf.l0 k m e (out ++ [(⟨r.1, r.2.1, r.2.2.1, r.2.2.2.1⟩ : S83)]) ((i + 1 : Nat) : Int) a b c T) else (none)))) else (some (([] : List S83), false))) (fun k => by simp only [spec_LogOf.j2]; rw [if_neg (by decide), if_pos c4.symm, if_pos c5, sHalf c T ha hb, Option.bind_some, w1]) ?_
              by_cases c6 : halfP a b r.2.2.1 = true
              · simp only [if_pos c6]
                refine evThen hq (fun k => rfl) ?_
                by_cases c7 : out.any (fun x => x.f2 == r.2.2.1) = true
                · rw [if_pos c7]
                  rw [c7, decide_eq_true_eq] at hqa
                  exact evIs (fun k => by rw [if_pos hqa])
                · rw [if_neg c7]
                  rw [Bool.eq_false_iff.2 c7, decide_eq_false_iff_not] at hqa
                  exact Ev.congr (fun k => by rw [if_neg hqa, if_pos (by omega)]) (ih (i + 1) _ (by omega) (by rw [List.length_append]; simp; omega))
              · simp only [if_neg c6]; exact Ev.now _
            · rw [if_neg c5]
              exact evIs1 (fun k => by simp only [spec_LogOf.j2]; rw [if_neg (by decide), if_pos c4.symm, if_neg c5])
          · rw [if_neg c4]
            exact evIs1 (fun k => by simp only [spec_LogOf.j2]; rw [if_neg (by decide), if_neg (fun h => c4 h.symm)])
    · simp only [if_neg c1]
      exact Ev.step (f := fun k => spec_LogOf.j2 k m e out (i : Int) true a b c T r.1 r.2.1 r.2.2.1 r.2.2.2.1) (fun k => by simp only [spec_LogOf.j1]; rw [if_neg (by decide), if_neg c1]) (J2t _ _ _ _)
theorem sLO (a b c : Int) (T : List ByteArray) (m : ByteArray) (hl : T.length ≤ 1048576) (hs : ∀ s ∈ T, s.size ≤ 9223372036854775807) (hz : m.size ≤ 1048576) : Ev (fun k => spec_LogOf.f k a b c T m) (logP a b c T m) := by
  refine evThen (sEO a b c T m hl hs hz) (fun k => rfl) ?_
  unfold logP
  by_cases g : epochOfP a b c T m < 0
  · simp only [if_pos g]; exact Ev.now _
  · obtain ⟨h1, h2⟩ := imgP_of (ep_img g)
    obtain ⟨hc, _⟩ := cfgP_of h1
    simp only [if_neg g]
    exact sLog_l _ a b c T m (by omega) (by omega) h2 (by omega) b.toNat 0 [] (by omega) (Nat.zero_le _)
/-- The i-th 64 bytes. -/
def blk (b : List UInt8) (i : Nat) : List UInt8 := (b.drop (64 * i)).take 64
theorem blk_length (b : List UInt8) (i : Nat) (h : 64 * i + 64 ≤ b.length) : (blk b i).length = 64 := by simp [blk]; omega
theorem blk_lay (b d : List UInt8) (a i : Nat) (hd : d.length = 64) (ha : 64 * a + 64 ≤ b.length) (hi : 64 * i + 64 ≤ b.length) :
    blk (b.take (64 * a) ++ d ++ b.drop (64 * a + d.length)) i = if i = a then d else blk b i := by
  rw [hd]
  apply List.ext_getElem?
  intro j
  unfold blk
  rw [List.getElem?_take, List.getElem?_drop]
  by_cases hj : j < 64
  · rw [if_pos hj, List.append_assoc, List.getElem?_append, List.getElem?_append, List.length_take, hd, show min (64 * a) b.length = 64 * a by omega]
    by_cases e : i = a
    · subst e
      rw [if_pos rfl, if_neg (by omega), if_pos (by omega)]
      congr 1; omega
    · rw [if_neg e, show ((b.drop (64 * i)).take 64)[j]? = b[64 * i + j]? from by rw [List.getElem?_take, if_pos hj, List.getElem?_drop]]
      by_cases e2 : 64 * i + j < 64 * a
      · rw [if_pos e2, List.getElem?_take, if_pos e2]
      · rw [if_neg e2, if_neg (by omega), List.getElem?_drop]
        congr 1; omega
  · rw [if_neg hj]
    by_cases e : i = a
    · rw [if_pos e, List.getElem?_eq_none (by omega)]
    · rw [if_neg e, List.getElem?_take, if_neg hj]
theorem join_blk (b : List UInt8) : ∀ n : Nat, (List.range n).flatMap (blk b) = b.take (64 * n)
  | 0 => by simp
  | n + 1 => by
    rw [List.range_succ, List.flatMap_append, join_blk b n, show 64 * (n + 1) = 64 * n + 64 by omega, List.take_add]
    simp [blk]
/-- What is seen of line i. -/
def seenB (s : List UInt8) (l : List S106) (i : Nat) : List UInt8 := l.foldl (fun acc x => if x.f0 = (i : Int) then x.f1.data.toList else acc) (blk s i)
def srt (l : List S106) : Prop := l.Pairwise (fun x y => x.f0 < y.f0)
theorem foldl_no (l : List S106) (i : Int) (h : ∀ x ∈ l, x.f0 ≠ i) : ∀ a : List UInt8, l.foldl (fun acc x => if x.f0 = i then x.f1.data.toList else acc) a = a := by
  induction l with
  | nil => intro a; rfl
  | cons x l ih =>
    intro a
    rw [List.foldl_cons, if_neg (h x (by simp))]
    exact ih (fun y hy => h y (by simp [hy])) a
theorem foldl_find (i : Int) : ∀ (l : List S106), srt l → ∀ a : List UInt8, l.foldl (fun acc x => if x.f0 = i then x.f1.data.toList else acc) a =
    if (l[l.countP (fun x => decide (x.f0 < i))]?).any (fun x => decide (x.f0 = i)) = true then (l.getD (l.countP (fun x => decide (x.f0 < i))) z106).f1.data.toList else a
  | [], _, a => by simp
  | x :: l, h, a => by
    have hx := (List.pairwise_cons.1 h).1
    have hl := (List.pairwise_cons.1 h).2
    rw [List.foldl_cons]
    by_cases c : x.f0 < i
    · rw [if_neg (by omega), foldl_find i l hl a, List.countP_cons_of_pos (by simpa using c)]
      simp
    · have z : (x :: l).countP (fun x => decide (x.f0 < i)) = 0 := by
        rw [List.countP_eq_zero]
        intro y hy
        rcases List.mem_cons.1 hy with rfl | hy
        · simpa using c
        · have := hx y hy; simp; omega
      rw [z, foldl_no l i (fun y hy => by have := hx y hy; omega)]
      by_cases e : x.f0 = i <;> simp [e]
theorem srt_of {s : ByteArray} {l : List S106} (hd : DevOk s l) : srt l := by
  have h1 : ∀ i, i + 1 < l.length → (rd_T106 l (i : Int)).f0 < (rd_T106 l ((i + 1 : Nat) : Int)).f0 := by
    intro i hi
    have := (hd.2 (i + 1) hi).2.1 (by omega)
    rwa [show (((i + 1 : Nat) : Int) - 1) = (i : Int) by omega] at this
  have h2 : ∀ (d i : Nat), i + (d + 1) < l.length → (rd_T106 l (i : Int)).f0 < (rd_T106 l ((i + (d + 1) : Nat) : Int)).f0 := by
    intro d
    induction d with
    | zero => intro i hi; exact h1 i hi
    | succ d ih =>
      intro i hi
      have a := ih i (by omega)
      have b := h1 (i + (d + 1)) (by omega)
      rw [show i + (d + 1 + 1) = i + (d + 1) + 1 by omega]
      omega
  unfold srt
  rw [List.pairwise_iff_getElem]
  intro i j hi hj hij
  have := h2 (j - i - 1) i (by omega)
  rw [show i + (j - i - 1 + 1) = j by omega, rd_nat l i hi, rd_nat l j hj] at this
  exact this
/-- All lines laid over the safe contents. -/
def layAll (b : List UInt8) (l : List S106) : List UInt8 := l.foldl (fun b x => b.take (64 * x.f0).toNat ++ x.f1.data.toList ++ b.drop ((64 * x.f0).toNat + x.f1.data.toList.length)) b
theorem layAll_blk : ∀ (l : List S106) (b : List UInt8), (∀ x ∈ l, 0 ≤ x.f0 ∧ 64 * x.f0 + 64 ≤ (b.length : Int) ∧ x.f1.size = 64) → (layAll b l).length = b.length ∧ ∀ i, 64 * i + 64 ≤ b.length → blk (layAll b l) i = seenB b l i
  | [], b, _ => ⟨rfl, fun i _ => rfl⟩
  | x :: l, b, h => by
    obtain ⟨h1, h2, h3⟩ := h x (by simp)
    obtain ⟨n, hn⟩ := Int.eq_ofNat_of_zero_le h1
    have h3' : x.f1.data.toList.length = 64 := by rw [← h3]; simp
    have e : (64 * x.f0).toNat = 64 * n := by omega
    have hlen : (b.take (64 * x.f0).toNat ++ x.f1.data.toList ++ b.drop ((64 * x.f0).toNat + x.f1.data.toList.length)).length = b.length := by
      simp only [List.length_append, List.length_take, List.length_drop, h3']; omega
    obtain ⟨a1, a2⟩ := layAll_blk l (b.take (64 * x.f0).toNat ++ x.f1.data.toList ++ b.drop ((64 * x.f0).toNat + x.f1.data.toList.length)) (fun y hy => by rw [hlen]; exact h y (by simp [hy]))
    refine ⟨a1.trans hlen, fun i hi => ?_⟩
    have := a2 i (by rw [hlen]; exact hi)
    rw [show layAll b (x :: l) = layAll (b.take (64 * x.f0).toNat ++ x.f1.data.toList ++ b.drop ((64 * x.f0).toNat + x.f1.data.toList.length)) l from rfl, this]
    unfold seenB
    rw [List.foldl_cons, e, blk_lay b x.f1.data.toList n i h3' (by omega) hi, hn]
    by_cases c : i = n
    · rw [if_pos c, if_pos (by rw [c])]
    · rw [if_neg c, if_neg (by omega)]
def seenL (s : List UInt8) (l : List S106) : List UInt8 := (List.range (s.length / 64)).flatMap (seenB s l)
theorem layAll_seen (l : List S106) (b : List UInt8) (hb : b.length % 64 = 0) (h : ∀ x ∈ l, 0 ≤ x.f0 ∧ 64 * x.f0 + 64 ≤ (b.length : Int) ∧ x.f1.size = 64) : layAll b l = seenL b l := by
  obtain ⟨h1, h2⟩ := layAll_blk l b h
  have e := join_blk (layAll b l) (b.length / 64)
  rw [List.take_of_length_le (by rw [h1]; omega)] at e
  rw [← e]
  unfold seenL
  rw [List.flatMap_def, List.flatMap_def]
  congr 1
  apply List.map_congr_left
  intro i hi
  exact h2 i (by have := List.mem_range.1 hi; omega)
def layd (b : List UInt8) (n : Nat) (t : List UInt8) : List UInt8 := b.take (64 * n) ++ t ++ b.drop (64 * n + t.length)
theorem layd_len (b : List UInt8) (n : Nat) (t : List UInt8) (h : 64 * n + t.length ≤ b.length) : (layd b n t).length = b.length := by simp [layd]; omega
theorem layd_nil (b : List UInt8) (n : Nat) : layd b n [] = b := by simp [layd]
/-- What a right device says of each of its lines. -/
def okL (m : Nat) (x : S106) : Prop := 0 ≤ x.f0 ∧ 64 * x.f0 + 64 ≤ (m : Int) ∧ x.f1.size = 64 ∧ (x.f2.size = 64 ∨ x.f2.size = 0)
theorem okL_of {s : ByteArray} {l : List S106} (hd : DevOk s l) : ∀ x ∈ l, okL s.size x := by
  intro x hx
  obtain ⟨i, hi, rfl⟩ := List.getElem_of_mem hx
  have h := hd.2 i hi
  have h1 := hd.1
  unfold lineOk at h
  rw [rd_nat l i hi] at h
  obtain ⟨⟨a, b⟩, _, c, d⟩ := h
  refine ⟨a, by omega, c, ?_⟩
  rcases d with d | d
  · exact .inl d
  · refine .inr ?_
    rw [ByteArray.toList_eq] at d
    have : l[i].f2.data.toList.length = 0 := by rw [d]; rfl
    simpa using this
theorem dlen (d : ByteArray) : d.data.toList.length = d.size := by simp
theorem l2S_l : ∀ (l : List S106) (b : List UInt8), (∀ x ∈ l, okL b.length x) → spec_l2Seen.l l b = some (layAll b l)
  | [], b, _ => rfl
  | x :: xs, b, h => by
    obtain ⟨h1, h2, h3, h4⟩ := h x (by simp)
    obtain ⟨n, hn⟩ := Int.eq_ofNat_of_zero_le h1
    have k1 : (b.take (64 * x.f0).toNat ++ x.f1.data.toList ++ b.drop ((64 * x.f0).toNat + x.f1.data.toList.length)).length = b.length := by
      have := layd_len b n x.f1.data.toList (by rw [dlen]; omega)
      rw [show (64 * x.f0).toNat = 64 * n by omega]; exact this
    unfold spec_l2Seen.l
    rw [if_pos ⟨h1, h2, by omega⟩, l2S_l xs _ (fun y hy => by rw [k1]; exact h y (by simp [hy]))]
    rfl
theorem l2S (s : ByteArray) (l : List S106) (hd : DevOk s l) (hs : s.size ≤ 1048576) : spec_l2Seen.f s l = some ⟨(seenL s.data.toList l).toArray⟩ := by
  unfold spec_l2Seen.f
  rw [if_pos (by omega), l2S_l l _ (fun x hx => by rw [dlen]; exact okL_of hd x hx), layAll_seen]
  · rfl
  · rw [dlen]; have := hd.1; omega
  · intro x hx
    obtain ⟨h1, h2, h3, _⟩ := okL_of hd x hx
    rw [dlen]; exact ⟨h1, h2, h3⟩
theorem iIn (a b c : Int) : impl_within.f a b c = some (decide (b ≤ a ∧ a ≤ c)) := by
  unfold impl_within.f
  by_cases h : a ≥ b
  · rw [if_pos h]; congr 1; rw [decide_eq_decide]; omega
  · rw [if_neg h]; congr 1; symm; rw [decide_eq_false_iff_not]; omega
theorem okOne (s : ByteArray) (l : List S106) (i : Nat) : impl_DeviceOk.one s l i = true ↔ lineOk s l i := by
  have e : 0 < i → ((i : Int) - 1) = ((i - 1 : Nat) : Int) := fun h => by omega
  unfold impl_DeviceOk.one lineOk impl_DeviceOk.A
  simp only [Bool.and_eq_true, Bool.not_eq_true', Bool.and_eq_false_iff, Bool.or_eq_true, decide_eq_true_eq, decide_eq_false_iff_not, List.isEmpty_iff]
  constructor
  · rintro ⟨h1, h2, h3, h4⟩
    refine ⟨h1, fun h => ?_, by omega, ?_⟩
    · rw [e h]; rcases h2 with h2 | h2
      · exact absurd h h2
      · omega
    · rcases h4 with h4 | h4
      · exact .inl (by omega)
      · exact .inr h4
  · rintro ⟨h1, h2, h3, h4⟩
    refine ⟨h1, ?_, by omega, ?_⟩
    · by_cases h : 0 < i
      · have := h2 h; rw [e h] at this; exact .inr (by omega)
      · exact .inl h
    · rcases h4 with h4 | h4
      · exact .inl (by omega)
      · exact .inr h4
theorem gDev (s : ByteArray) (l : List S106) : impl_DeviceOk.g s l = devOkB s l := by
  rw [Bool.eq_iff_iff, devOkB_iff]
  unfold impl_DeviceOk.g DevOk
  simp only [Bool.and_eq_true, decide_eq_true_eq, List.all_eq_true, List.mem_range, okOne]
  exact ⟨fun ⟨a, b, c⟩ => ⟨⟨a, b.1, b.2⟩, c⟩, fun ⟨a, b⟩ => ⟨a.1, ⟨a.2.1, a.2.2⟩, b⟩⟩
theorem iDO (s : ByteArray) (l : List S106) (hs : s.size ≤ 1048576) (hl : l.length ≤ 1048576) : Ev (fun k => impl_DeviceOk.f k s l) (devOkB s l) := evIs fun k => by unfold impl_DeviceOk.f; rw [if_pos ⟨hs, hl⟩, gDev]
theorem sDO (s : ByteArray) (l : List S106) (hs : s.size ≤ 1048576) (hl : l.length ≤ 1048576) : Ev (fun k => spec_DeviceOk.f k s l) (devOkB s l) := evIs fun k => by unfold spec_DeviceOk.f; rw [if_pos ⟨hs, hl⟩, gDev]
/-- a text with some bytes replaced from a place on -/
def withP (s : ByteArray) (a : Nat) (d : ByteArray) : ByteArray := (s.extract 0 a ++ d) ++ s.extract (a + d.size) s.size
theorem withP_size (s : ByteArray) (a : Nat) (d : ByteArray) (h : a + d.size ≤ s.size) : (withP s a d).size = s.size := by
  unfold withP; rw [ByteArray.size_append, ByteArray.size_append, ByteArray.size_extract, ByteArray.size_extract]; omega
theorem sWith (s : ByteArray) (a : Nat) (d : ByteArray) (h : a + d.size ≤ s.size) (hs : s.size ≤ 4611686018427387904) : spec_l2With.f s a d = some (withP s a d) := by
  unfold spec_l2With.f withP
  have e1 : wrap64 ((a : Int) + (d.size : Int)) = ((a + d.size : Nat) : Int) := by rw [w64 (by omega) (by omega)]; omega
  rw [if_pos (by omega), if_pos (by omega), if_pos (by rw [ByteArray.size_extract]; omega), e1, if_pos (by omega), if_pos (by omega), if_pos (by rw [ByteArray.size_append, ByteArray.size_extract, ByteArray.size_extract]; omega)]
  simp only [Int.toNat_natCast]
/-- one line after a store of t at its place o -/
def stx (y : Int) (o : Nat) (t : ByteArray) (x : S106) : S106 := if x.f0 = y then ⟨x.f0, withP x.f1 o t, x.f2⟩ else x
def stNew (s : ByteArray) (y : Int) (o : Nat) (t : ByteArray) : S106 := ⟨y, withP (safeL s y) o t, (⟨#[]⟩ : ByteArray)⟩
def storeL (s : ByteArray) (y : Int) (o : Nat) (t : ByteArray) : Bool → List S106 → List S106 → List S106
  | d, [], acc => if d = true then acc else acc ++ [stNew s y o t]
  | d, x :: xs, acc => if d = false ∧ y < x.f0 then storeL s y o t true xs (acc ++ [stNew s y o t] ++ [x]) else if x.f0 = y then storeL s y o t true xs (acc ++ [stx y o t x]) else storeL s y o t d xs (acc ++ [x])
theorem store_nil (s : ByteArray) (y : Int) (o : Nat) (t : ByteArray) (d : Bool) (acc : List S106) : storeL s y o t d [] acc = if d = true then acc else acc ++ [stNew s y o t] := rfl
theorem store_cons (s : ByteArray) (y : Int) (o : Nat) (t : ByteArray) (d : Bool) (x : S106) (xs acc : List S106) : storeL s y o t d (x :: xs) acc = if d = false ∧ y < x.f0 then storeL s y o t true xs (acc ++ [stNew s y o t] ++ [x]) else if x.f0 = y then storeL s y o t true xs (acc ++ [stx y o t x]) else storeL s y o t d xs (acc ++ [x]) := rfl
theorem safeL_size (s : ByteArray) (y : Int) (hy : 0 ≤ y) (hs : 64 * y + 64 ≤ (s.size : Int)) : (safeL s y).size = 64 := by
  unfold safeL; rw [ByteArray.size_extract]; omega
theorem sSt_new (s : ByteArray) (y a : Int) (o : Nat) (t : ByteArray) (hm : s.size ≤ 1048576) (hy : 0 ≤ y) (hs : 64 * y + 64 ≤ (s.size : Int)) (ha : Int.tmod a 64 = (o : Int)) (ht : o + t.size ≤ 64) : spec_l2Store.new s y a t = some (stNew s y o t) := by
  have hz := safeL_size s y hy hs
  unfold spec_l2Store.new
  rw [if_pos ⟨hy, hs, by omega⟩, ha, show s.extract (64 * y).toNat (64 * y + 64).toNat = safeL s y from rfl, sWith (safeL s y) o t (by omega) (by omega)]
  rfl
theorem sSt_l (s : ByteArray) (y a : Int) (o : Nat) (t : ByteArray) (hm : s.size ≤ 1048576) (hy : 0 ≤ y) (hs : 64 * y + 64 ≤ (s.size : Int)) (ha : Int.tmod a 64 = (o : Int)) (ht : o + t.size ≤ 64) :
    ∀ (l : List S106) (d : Bool) (acc : List S106), acc.length + 2 * l.length ≤ 3000000 → (∀ x ∈ l, x.f1.size = 64) → spec_l2Store.l s y a t l d acc = some (storeL s y o t d l acc)
  | [], d, acc, hl, _ => by
    unfold spec_l2Store.l
    rw [store_nil]
    by_cases c : d = true
    · rw [if_pos c, if_pos c]
    · rw [if_neg c, if_neg c, if_pos (by omega), sSt_new s y a o t hm hy hs ha ht]; rfl
  | x :: xs, d, acc, hl, hd => by
    simp only [List.length_cons] at hl
    have ih := fun (d : Bool) (acc : List S106) h => sSt_l s y a o t hm hy hs ha ht xs d acc h (fun z hz => hd z (by simp [hz]))
    unfold spec_l2Store.l
    rw [store_cons, if_pos (by omega)]
    by_cases c : d = false ∧ y < x.f0
    · rw [if_pos c, if_pos c, sSt_new s y a o t hm hy hs ha ht, Option.bind_some, ih _ _ (by simp; omega)]
    · rw [if_neg c, if_neg c]
      by_cases c2 : x.f0 = y
      · have hx := hd x (by simp)
        rw [if_pos c2, if_pos c2, ha, sWith x.f1 o t (by omega) (by omega), Option.bind_some, ih _ _ (by simp; omega)]
        unfold stx
        rw [if_pos c2]
      · rw [if_neg c2, if_neg c2, ih _ _ (by simp; omega)]
theorem sStore (s : ByteArray) (l : List S106) (y : Int) (o : Nat) (t : ByteArray) (hm : s.size ≤ 1048576) (hl : l.length ≤ 1048576) (hy : 0 ≤ y) (hs : 64 * y + 64 ≤ (s.size : Int)) (ho : o < 64) (ht : o + t.size ≤ 64) (hd : ∀ x ∈ l, x.f1.size = 64) : spec_l2Store.f s l (64 * y + (o : Int)) t = some (s, storeL s y o t false l []) := by
  have e1 : Int.tdiv (64 * y + (o : Int)) 64 = y := by rw [Int.tdiv_eq_ediv_of_nonneg (by omega)]; omega
  have e2 : Int.tmod (64 * y + (o : Int)) 64 = (o : Int) := by rw [Int.tmod_eq_emod_of_nonneg (by omega)]; omega
  unfold spec_l2Store.f
  rw [e1, w64 (by omega) (by omega), sSt_l s y _ o t hm hy hs e2 ht l false [] (by simp; omega) hd]
  rfl
theorem store_ok (s : ByteArray) (y : Int) (o : Nat) (t : ByteArray) (hy : 0 ≤ y) (hs : 64 * y + 64 ≤ (s.size : Int)) (ht : o + t.size ≤ 64) : ∀ (l : List S106) (d : Bool) (acc : List S106), (∀ x ∈ l, okL s.size x) → (∀ x ∈ acc, okL s.size x) → ∀ x ∈ storeL s y o t d l acc, okL s.size x := by
  have hn : okL s.size (stNew s y o t) := ⟨hy, hs, by rw [show (stNew s y o t).f1 = withP (safeL s y) o t from rfl, withP_size _ _ _ (by rw [safeL_size s y hy hs]; omega), safeL_size s y hy hs], Or.inr rfl⟩
  intro l
  induction l with
  | nil =>
    intro d acc _ ha x hx
    rw [store_nil] at hx
    by_cases c : d = true
    · rw [if_pos c] at hx; exact ha x hx
    · rw [if_neg c] at hx
      rcases List.mem_append.1 hx with h | h
      · exact ha x h
      · rw [List.mem_singleton.1 h]; exact hn
  | cons z zs ih =>
    intro d acc hl ha
    have hz := hl z (by simp)
    have hzs : ∀ x ∈ zs, okL s.size x := fun x hx => hl x (by simp [hx])
    have snoc : ∀ (q : List S106) (e : S106), (∀ x ∈ q, okL s.size x) → okL s.size e → ∀ x ∈ q ++ [e], okL s.size x := fun q e hq he x hx => by
      rcases List.mem_append.1 hx with h | h
      · exact hq x h
      · rw [List.mem_singleton.1 h]; exact he
    rw [store_cons]
    by_cases c : d = false ∧ y < z.f0
    · rw [if_pos c]; exact ih true _ hzs (snoc _ _ (snoc _ _ ha hn) hz)
    · rw [if_neg c]
      by_cases c2 : z.f0 = y
      · rw [if_pos c2]
        refine ih true _ hzs (snoc _ _ ha ?_)
        unfold stx; rw [if_pos c2]
        exact ⟨hz.1, hz.2.1, by rw [show (S106.mk z.f0 (withP z.f1 o t) z.f2).f1 = withP z.f1 o t from rfl, withP_size _ _ _ (by have := hz.2.2.1; omega)]; exact hz.2.2.1, hz.2.2.2⟩
      · rw [if_neg c2]; exact ih d _ hzs (snoc _ _ ha hz)
theorem rd_mid2 (p r : List S106) (y : S106) (i : Nat) (h : p.length = i) : rd_T106 (p ++ y :: r) (i : Int) = y := by
  subst h; simp [rd_T106, List.getD]
theorem set_mid2 (p r : List S106) (y z : S106) (i : Nat) (h : p.length = i) : (p ++ y :: r).set i z = p ++ z :: r := by
  subst h; rw [List.set_append_right _ _ (by omega), Nat.sub_self, List.set_cons_zero]
def fl (y : Int) (x : S106) : S106 := if x.f0 = y then ⟨x.f0, x.f1, x.f1⟩ else x
theorem sFl_l (s : ByteArray) (l : List S106) (y : Int) (hl : l.length ≤ 1048576) : ∀ (n i : Nat), i + n = l.length → Ev (fun k => spec_l2Flush.l0 k y (i : Int) s ((l.take i).map (fl y) ++ l.drop i)) (s, l.map (fl y)) := by
  intro n
  induction n with
  | zero =>
    intro i hi
    obtain rfl : i = l.length := by omega
    refine Ev.step (f := fun _ => some _) (fun k => ?_) (Ev.now _)
    simp only [spec_l2Flush.l0]
    rw [if_neg (by simp)]
    simp
  | succ n ih =>
    intro i hi
    have h := ih (i + 1) (by omega)
    have hi' : i < l.length := by omega
    have hp : ((l.take i).map (fl y)).length = i := by simp; omega
    have r : rd_T106 ((l.take i).map (fl y) ++ l.drop i) (i : Int) = l[i] := by
      rw [List.drop_eq_getElem_cons hi', rd_mid2 _ _ _ i hp]
    have e4 : wrap64 ((i : Int) + 1) = ((i + 1 : Nat) : Int) := by rw [w64 (by omega) (by omega)]; rfl
    have et : (l.take (i + 1)).map (fl y) ++ l.drop (i + 1) = (l.take i).map (fl y) ++ fl y l[i] :: l.drop (i + 1) := by
      rw [List.take_add_one, List.getElem?_eq_getElem hi']
      simp only [Option.toList_some, List.map_append, List.map_cons, List.map_nil, List.append_assoc, List.singleton_append]
    rw [et] at h
    refine Ev.step (f := fun k => spec_l2Flush.l0 k y ((i + 1 : Nat) : Int) s ((l.take i).map (fl y) ++ fl y l[i] :: l.drop (i + 1))) (fun k => ?_) h
    rw [spec_l2Flush.l0, if_pos (by simp; omega), if_pos (by omega), r, e4]
    by_cases c : l[i].f0 = y
    · rw [if_pos c, Int.toNat_natCast, List.drop_eq_getElem_cons hi', set_mid2 _ _ _ _ i hp]
      simp [fl, c]
    · rw [if_neg c, List.drop_eq_getElem_cons hi']
      simp [fl, c]
def fenceL : List S106 → List UInt8 → List S106 → List UInt8 × List S106
  | [], b, acc => (b, acc)
  | x :: xs, b, acc => fenceL xs (layd b x.f0.toNat x.f2.data.toList) (if x.f2.toList = x.f1.toList then acc else acc ++ [⟨x.f0, x.f1, (⟨#[]⟩ : ByteArray)⟩])
theorem sFe_l : ∀ (l : List S106) (b : List UInt8) (acc : List S106), (∀ x ∈ l, okL b.length x) → acc.length + l.length ≤ 2000000 → spec_l2Fence.l l b acc = some (fenceL l b acc)
  | [], b, acc, _, _ => rfl
  | x :: xs, b, acc, h, hl => by
    obtain ⟨h1, h2, h3, h4⟩ := h x (by simp)
    obtain ⟨n, hn⟩ := Int.eq_ofNat_of_zero_le h1
    have en : x.f0.toNat = n := by omega
    have k2 : (layd b n x.f2.data.toList).length = b.length := layd_len _ _ _ (by rw [dlen]; omega)
    simp only [List.length_cons] at hl
    unfold spec_l2Fence.l fenceL
    rw [if_pos ⟨h1, h2, by omega, by omega⟩, show (64 * x.f0).toNat = 64 * n by omega, en]
    have e : b.take (64 * n) ++ x.f2.data.toList ++ b.drop (64 * n + x.f2.data.toList.length) = layd b n x.f2.data.toList := rfl
    rw [e]
    by_cases c : x.f2.toList = x.f1.toList
    · rw [if_pos c, if_pos c, sFe_l xs _ acc (fun y hy => by rw [k2]; exact h y (by simp [hy])) (by omega)]
    · rw [if_neg c, if_neg c, sFe_l xs _ _ (fun y hy => by rw [k2]; exact h y (by simp [hy])) (by simp; omega)]
/-- A right device, line by line. -/
theorem devOk_of {s : ByteArray} {l : List S106} (h1 : (s.size : Int) % 64 = 0) (h2 : 1 ≤ (s.size : Int) / 64 ∧ (s.size : Int) / 64 ≤ 128) (ho : ∀ x ∈ l, okL s.size x) (hs : srt l) : DevOk s l := by
  refine ⟨⟨h1, h2.1, h2.2⟩, fun j hj => ?_⟩
  obtain ⟨a, b, c, d⟩ := ho l[j] (List.getElem_mem hj)
  have r := rd_nat l j hj
  refine ⟨⟨by rw [r]; exact a, by rw [r]; omega⟩, fun hp => ?_, by rw [r]; exact c, ?_⟩
  · have hj' : j - 1 < l.length := by omega
    have r' := rd_nat l (j - 1) hj'
    rw [show ((j : Int) - 1) = ((j - 1 : Nat) : Int) by omega, r, r']
    exact (List.pairwise_iff_getElem.1 hs) (j - 1) j hj' hj (by omega)
  · rw [r]
    rcases d with d | d
    · exact Or.inl d
    · refine Or.inr ?_
      rw [ByteArray.toList_eq]
      exact List.length_eq_zero_iff.1 (by rw [dlen]; exact d)
theorem hasE (s : ByteArray) (l : List S106) (x : Int) (hs : s.size ≤ 1048576) : impl_Device_has.f s l x = some (decide (0 ≤ x ∧ x ≤ (s.size : Int) / 64 - 1)) := by
  unfold impl_Device_has.f
  rw [iIn, Option.bind_some, w64 (n := (s.size : Int) / 64) (by omega) (by omega), w64 (n := (s.size : Int) / 64 - 1) (by omega) (by omega)]
theorem iWith (s : ByteArray) (a : Nat) (d : ByteArray) (h : a + d.size ≤ s.size) (hs : s.size ≤ 4611686018427387904) : impl_replaced.f s a d = some (withP s a d) := by
  unfold impl_replaced.f withP
  have e1 : wrap64 ((a : Int) + (d.size : Int)) = ((a + d.size : Nat) : Int) := by rw [w64 (by omega) (by omega)]; omega
  rw [if_pos (by omega), if_pos (by omega), if_pos (by rw [ByteArray.size_extract]; omega), e1, if_pos (by omega), if_pos (by omega), if_pos (by rw [ByteArray.size_append, ByteArray.size_extract, ByteArray.size_extract]; omega)]
  simp only [Int.toNat_natCast]
theorem st_pre (s : ByteArray) (y : Int) (o : Nat) (t : ByteArray) (r : List S106) : ∀ (p acc : List S106), (∀ x ∈ p, x.f0 < y) → storeL s y o t false (p ++ r) acc = storeL s y o t false r (acc ++ p)
  | [], acc, _ => by simp
  | x :: p, acc, h => by
    have hx := h x (by simp)
    rw [List.cons_append, store_cons, if_neg (by intro z; omega), if_neg (by omega), st_pre s y o t r p (acc ++ [x]) (fun z hz => h z (by simp [hz]))]
    simp
theorem st_done (s : ByteArray) (y : Int) (o : Nat) (t : ByteArray) : ∀ (r acc : List S106), (∀ x ∈ r, x.f0 ≠ y) → storeL s y o t true r acc = acc ++ r
  | [], acc, _ => by rw [store_nil, if_pos rfl]; simp
  | x :: r, acc, h => by
    have hx := h x (by simp)
    rw [store_cons, if_neg (by intro z; exact absurd z.1 (by decide)), if_neg hx, st_done s y o t r (acc ++ [x]) (fun z hz => h z (by simp [hz]))]
    simp
theorem split_srt (y : Int) : ∀ (l : List S106), srt l → ∃ p r, l = p ++ r ∧ (∀ x ∈ p, x.f0 < y) ∧ (∀ x ∈ r, y ≤ x.f0)
  | [], _ => ⟨[], [], rfl, (fun x hx => by cases hx), (fun x hx => by cases hx)⟩
  | x :: l, h => by
    have hx := (List.pairwise_cons.1 h).1
    obtain ⟨p, r, e, h1, h2⟩ := split_srt y l (List.pairwise_cons.1 h).2
    by_cases c : x.f0 < y
    · refine ⟨x :: p, r, by rw [e]; rfl, fun z hz => ?_, h2⟩
      rcases List.mem_cons.1 hz with rfl | hz
      · exact c
      · exact h1 z hz
    · refine ⟨[], x :: l, rfl, (fun z hz => by cases hz), fun z hz => ?_⟩
      rcases List.mem_cons.1 hz with rfl | hz
      · omega
      · have := hx z hz; omega
theorem idx_split (y : Int) (p r : List S106) (h1 : ∀ x ∈ p, x.f0 < y) (h2 : ∀ x ∈ r, y ≤ x.f0) : impl_Device_find.idx (p ++ r) y = p.length := by
  unfold impl_Device_find.idx
  rw [List.countP_append, List.countP_eq_length.2 (fun x hx => by simpa using h1 x hx), List.countP_eq_zero.2 (fun x hx => by have := h2 x hx; simp; omega)]
  rfl
theorem safeLine_eq (s : ByteArray) (l : List S106) (y : Int) (hs : s.size ≤ 1048576) (hy : 0 ≤ y) (h : 64 * y + 64 ≤ (s.size : Int)) : impl_Device_safeLine.f s l y = some (safeL s y) := by
  have e1 : wrap64 (64 * y) = 64 * y := w64 (by omega) (by omega)
  have e2 : wrap64 (64 * y + 64) = 64 * y + 64 := w64 (by omega) (by omega)
  unfold impl_Device_safeLine.f
  rw [e1, e2, if_pos (by omega), if_pos (by omega), if_pos h]
  rfl
/-- The program's way of a store: the line is found, or laid at its place; then its bytes are replaced. -/
theorem put_store (s : ByteArray) (l : List S106) (y : Int) (o : Nat) (t : ByteArray) (hs : s.size ≤ 1048576) (hl : l.length ≤ 1048576) (hd : DevOk s l) (hy : 0 ≤ y) (hys : 64 * y + 64 ≤ (s.size : Int)) (ht : o + t.size ≤ 64) :
    ((impl_Device_find.f s l y).bind fun q => (impl_Store.ins s l y q.1 q.2).bind fun L => impl_Store.fin L (o : Int) t q.1) = some (storeL s y o t false l []) := by
  have hsr := srt_of hd
  have hok := okL_of hd
  have e2 : impl_Device_find.f s l y = some (((impl_Device_find.idx l y : Nat) : Int), (decide (impl_Device_find.idx l y < l.length) && decide ((rd_T106 l (impl_Device_find.idx l y : Nat)).f0 = y))) := by
    unfold impl_Device_find.f
    rw [if_pos (show impl_Device_find.srt l from hsr), if_pos (by omega)]
  obtain ⟨p, r, e, h1, h2⟩ := split_srt y l hsr
  have hidx := idx_split y p r h1 h2
  subst e
  rw [e2, hidx, Option.bind_some]
  simp only
  by_cases c : ∃ x r', r = x :: r' ∧ x.f0 = y
  · obtain ⟨x, r', rfl, hx⟩ := c
    have rx : rd_T106 (p ++ x :: r') ((p.length : Nat) : Int) = x := rd_mid2 p r' x p.length rfl
    have eb : (decide (p.length < (p ++ x :: r').length) && decide ((rd_T106 (p ++ x :: r') ((p.length : Nat) : Int)).f0 = y)) = true := by rw [rx]; simp [hx]
    have nr : ∀ z ∈ r', z.f0 ≠ y := fun z hz => by
      have := (List.pairwise_cons.1 (List.pairwise_append.1 hsr).2.1).1 z hz
      omega
    have hx1 := (hok x (by simp)).2.2.1
    rw [eb]
    unfold impl_Store.ins impl_Store.fin
    rw [if_pos rfl, Option.bind_some, rx, iWith x.f1 o t (by omega) (by omega), Option.bind_some, Int.toNat_natCast, set_mid2 p r' x _ p.length rfl]
    rw [st_pre s y o t (x :: r') p [] h1, store_cons, if_neg (by intro z; omega), if_pos hx, st_done s y o t r' _ nr]
    unfold stx
    rw [if_pos hx]
    simp
  · have eb : (decide (p.length < (p ++ r).length) && decide ((rd_T106 (p ++ r) ((p.length : Nat) : Int)).f0 = y)) = false := by
      cases r with
      | nil => simp
      | cons x r' =>
        rw [rd_mid2 p r' x p.length rfl]
        have : ¬ x.f0 = y := fun z => c ⟨x, r', rfl, z⟩
        simp [this]
    have zz : (safeL s y).size = 64 := safeL_size s y hy hys
    have rm : rd_T106 (p ++ (⟨y, safeL s y, (⟨#[]⟩ : ByteArray)⟩ : S106) :: r) ((p.length : Nat) : Int) = ⟨y, safeL s y, (⟨#[]⟩ : ByteArray)⟩ := rd_mid2 p r _ p.length rfl
    rw [eb]
    unfold impl_Store.ins impl_Store.fin
    rw [if_neg (by decide), safeLine_eq s _ y hs hy hys, Option.bind_some, if_pos (by omega), Option.bind_some, Int.toNat_natCast, List.take_left, List.drop_left, rm, iWith (safeL s y) o t (by omega) (by omega), Option.bind_some, set_mid2 p r _ _ p.length rfl]
    rw [st_pre s y o t r p [] h1]
    cases r with
    | nil => rw [store_nil, if_neg (by decide)]; rfl
    | cons x r' =>
      have hx : ¬ x.f0 = y := fun z => c ⟨x, r', rfl, z⟩
      have hx2 := h2 x (by simp)
      have nr : ∀ z ∈ r', z.f0 ≠ y := fun z hz => by
        have := (List.pairwise_cons.1 (List.pairwise_append.1 hsr).2.1).1 z hz
        omega
      rw [store_cons, if_pos ⟨rfl, by omega⟩, st_done s y o t r' _ nr]
      unfold stNew
      simp
theorem srt_len (m : Int) : ∀ (l : List S106) (lo : Int), srt l → (∀ x ∈ l, lo ≤ x.f0 ∧ x.f0 < m) → lo ≤ m → (l.length : Int) ≤ m - lo
  | [], lo, _, _, h => by simp; omega
  | x :: l, lo, hs, h, hl => by
    have hx := (List.pairwise_cons.1 hs).1
    have h0 := h x (by simp)
    have := srt_len m l (x.f0 + 1) (List.pairwise_cons.1 hs).2 (fun z hz => ⟨by have := hx z hz; omega, (h z (by simp [hz])).2⟩) (by omega)
    rw [List.length_cons]; omega
theorem devOk_len {s : ByteArray} {l : List S106} (h : DevOk s l) : l.length ≤ 128 := by
  have h1 := h.1
  have := srt_len ((s.size : Int) / 64) l 0 (srt_of h) (fun x hx => by have := okL_of h x hx; exact ⟨this.1, by have := this.2.1; omega⟩) (by omega)
  omega
/-- Some bytes replaced. -/
theorem repl_eq (s d : ByteArray) (n : Nat) (h : 64 * n + d.size ≤ s.size) (hs : s.size ≤ 1048576) : impl_replaced.f s (64 * (n : Int)) d = some ⟨(s.data.toList.take (64 * n) ++ d.data.toList ++ s.data.toList.drop (64 * n + d.data.toList.length)).toArray⟩ := by
  have e1 : wrap64 (64 * (n : Int) + (d.size : Int)) = 64 * (n : Int) + (d.size : Int) := w64 (by omega) (by omega)
  have hd : d.data.toList.length = d.size := by simp
  have t1 : (64 * (n : Int)).toNat = 64 * n := by omega
  have t2 : (64 * (n : Int) + (d.size : Int)).toNat = 64 * n + d.size := by omega
  have z1 : (s.extract 0 (64 * n)).size = 64 * n := by rw [ByteArray.size_extract]; omega
  have z2 : (s.extract (64 * n + d.size) s.size).size = s.size - (64 * n + d.size) := by rw [ByteArray.size_extract]; omega
  unfold impl_replaced.f
  rw [e1, t1, t2, if_pos (by omega), if_pos (by omega), if_pos (by rw [z1]; omega), if_pos (by omega), if_pos (by omega), if_pos (by rw [ByteArray.size_append, z1, z2]; omega)]
  congr 1
  apply ByteArray.ext
  rw [hd]
  simp [ByteArray.data_append, ByteArray.data_extract]
  rw [List.take_of_length_le (by simp)]
theorem iFe_l (m : Nat) (hm : m ≤ 1048576) : ∀ (l : List S106) (s : ByteArray) (acc : List S106), s.size = m → (∀ x ∈ l, okL m x) → acc.length + l.length ≤ 2000000 → impl_Fence.l l s acc = some (⟨(fenceL l s.data.toList acc).1.toArray⟩, (fenceL l s.data.toList acc).2)
  | [], s, acc, _, _, _ => rfl
  | x :: xs, s, acc, hs, h, hl => by
    obtain ⟨h1, h2, h3, h4⟩ := h x (by simp)
    obtain ⟨n, hn⟩ := Int.eq_ofNat_of_zero_le h1
    have en : x.f0.toNat = n := by omega
    simp only [List.length_cons] at hl
    have es : impl_Fence.safe s x = some ⟨(layd s.data.toList n x.f2.data.toList).toArray⟩ := by
      unfold impl_Fence.safe
      by_cases c : x.f2.toList = ([] : List UInt8)
      · rw [if_pos c]
        rw [ByteArray.toList_eq] at c
        rw [c, layd_nil]
      · rw [if_neg c, hn, w64 (by omega) (by omega), repl_eq s x.f2 n (by omega) (by omega)]
        rfl
    have z2 : (⟨(layd s.data.toList n x.f2.data.toList).toArray⟩ : ByteArray).size = m := by
      have := layd_len s.data.toList n x.f2.data.toList (by rw [dlen, dlen]; omega)
      rw [dlen, hs] at this; exact List.size_toArray.trans this
    unfold impl_Fence.l fenceL
    rw [es, Option.bind_some, en]
    by_cases c : x.f2.toList = x.f1.toList
    · rw [if_pos c, if_pos c, iFe_l m hm xs _ acc z2 (fun y hy => h y (by simp [hy])) (by omega)]
    · rw [if_neg c, if_neg c, if_pos (by omega), iFe_l m hm xs _ _ z2 (fun y hy => h y (by simp [hy])) (by simp; omega)]
/-- what a fence keeps of a line -/
def keepL (l : List S106) : List S106 := (l.filter (fun x => decide (¬ x.f2.toList = x.f1.toList))).map (fun x => ⟨x.f0, x.f1, (⟨#[]⟩ : ByteArray)⟩)
theorem fence_acc : ∀ (l : List S106) (b : List UInt8) (acc : List S106), fenceL l b acc = ((fenceL l b []).1, acc ++ keepL l)
  | [], b, acc => by simp [fenceL, keepL]
  | x :: xs, b, acc => by
    unfold fenceL
    by_cases c : x.f2.toList = x.f1.toList
    · rw [if_pos c, if_pos c, fence_acc xs _ acc]
      simp [keepL, c]
    · rw [if_neg c, if_neg c, fence_acc xs _ (acc ++ _), fence_acc xs _ ([] ++ _)]
      simp [keepL, c]
theorem keepL_mem {l : List S106} {x : S106} (h : x ∈ keepL l) : ∃ z ∈ l, x = ⟨z.f0, z.f1, (⟨#[]⟩ : ByteArray)⟩ := by
  unfold keepL at h
  obtain ⟨z, hz, rfl⟩ := List.mem_map.1 h
  exact ⟨z, (List.mem_filter.1 hz).1, rfl⟩
theorem srt_keepL {l : List S106} (h : srt l) : srt (keepL l) := by
  unfold srt keepL at *
  rw [List.pairwise_map]
  exact (h.filter _).imp fun {x y} e => e
theorem store_form (s : ByteArray) (l : List S106) (y : Int) (o : Nat) (t : ByteArray) (hsr : srt l) :
    ∃ p r z, storeL s y o t false l [] = p ++ z :: r ∧ z.f0 = y ∧ (∀ x ∈ p, x.f0 < y) ∧ (∀ x ∈ r, y < x.f0) ∧ ((l = p ++ r ∧ z = stNew s y o t) ∨ ∃ x, l = p ++ x :: r ∧ x.f0 = y ∧ z = stx y o t x) := by
  obtain ⟨p, r, e, h1, h2⟩ := split_srt y l hsr
  subst e
  by_cases c : ∃ x r', r = x :: r' ∧ x.f0 = y
  · obtain ⟨x, r', rfl, hx⟩ := c
    have nr : ∀ z ∈ r', y < z.f0 := fun z hz => by
      have := (List.pairwise_cons.1 (List.pairwise_append.1 hsr).2.1).1 z hz
      omega
    refine ⟨p, r', stx y o t x, ?_, by unfold stx; rw [if_pos hx]; exact hx, h1, nr, Or.inr ⟨x, rfl, hx, rfl⟩⟩
    rw [st_pre s y o t (x :: r') p [] h1, store_cons, if_neg (by intro z; omega), if_pos hx, st_done s y o t r' _ (fun z hz => by have := nr z hz; omega)]
    simp
  · have nr : ∀ z ∈ r, y < z.f0 := fun z hz => by
      cases r with
      | nil => cases hz
      | cons x r' =>
        have hx : ¬ x.f0 = y := fun e => c ⟨x, r', rfl, e⟩
        have hx2 := h2 x (by simp)
        rcases List.mem_cons.1 hz with rfl | hz
        · omega
        · have := (List.pairwise_cons.1 (List.pairwise_append.1 hsr).2.1).1 z hz
          omega
    refine ⟨p, r, stNew s y o t, ?_, rfl, h1, nr, Or.inl ⟨rfl, rfl⟩⟩
    rw [st_pre s y o t r p [] h1]
    cases r with
    | nil => rw [store_nil, if_neg (by decide)]; rfl
    | cons x r' =>
      have hx2 := nr x (by simp)
      rw [store_cons, if_pos ⟨rfl, hx2⟩, st_done s y o t r' _ (fun z hz => by have := nr z (by simp [hz]); omega)]
      simp
theorem store_srt (s : ByteArray) (l : List S106) (y : Int) (o : Nat) (t : ByteArray) (hsr : srt l) : srt (storeL s y o t false l []) := by
  obtain ⟨p, r, z, e, hz, h1, h2, h⟩ := store_form s l y o t hsr
  rw [e]
  have hp : p.Pairwise (fun x y => x.f0 < y.f0) ∧ r.Pairwise (fun x y => x.f0 < y.f0) := by
    rcases h with ⟨rfl, _⟩ | ⟨x, rfl, _, _⟩
    · have := List.pairwise_append.1 hsr; exact ⟨this.1, this.2.1⟩
    · have := List.pairwise_append.1 hsr; exact ⟨this.1, (List.pairwise_cons.1 this.2.1).2⟩
  unfold srt
  rw [List.pairwise_append]
  refine ⟨hp.1, List.pairwise_cons.2 ⟨fun x hx => by have := h2 x hx; omega, hp.2⟩, fun a ha b hb => ?_⟩
  have := h1 a ha
  rcases List.mem_cons.1 hb with rfl | hb
  · omega
  · have := h2 b hb; omega
theorem seenL_blk (s : ByteArray) (l : List S106) (hd : DevOk s l) (i : Nat) (hi : 64 * i + 64 ≤ s.size) : blk (seenL s.data.toList l) i = seenB s.data.toList l i ∧ (seenL s.data.toList l).length = s.size := by
  have hb : s.data.toList.length % 64 = 0 := by rw [dlen]; have := hd.1; omega
  have ho : ∀ x ∈ l, 0 ≤ x.f0 ∧ 64 * x.f0 + 64 ≤ (s.data.toList.length : Int) ∧ x.f1.size = 64 := fun x hx => by have := okL_of hd x hx; rw [dlen]; exact ⟨this.1, this.2.1, this.2.2.1⟩
  have e := layAll_seen l s.data.toList hb ho
  obtain ⟨a1, a2⟩ := layAll_blk l s.data.toList ho
  rw [← e]
  exact ⟨a2 i (by rw [dlen]; exact hi), a1.trans (dlen s)⟩
theorem store_DevOk (s : ByteArray) (l : List S106) (y : Int) (o : Nat) (t : ByteArray) (hd : DevOk s l) (hy : 0 ≤ y) (hys : 64 * y + 64 ≤ (s.size : Int)) (ht : o + t.size ≤ 64) : DevOk s (storeL s y o t false l []) :=
  devOk_of hd.1.1 hd.1.2 (store_ok s y o t hy hys ht l false [] (okL_of hd) (fun x hx => by cases hx)) (store_srt s l y o t (srt_of hd))
theorem iZeros (n : Nat) (h : n ≤ 140737488355328) : impl_zeros.f (n : Int) = some (zs n) := by
  unfold impl_zeros.f; rw [if_pos (by omega), if_pos (by omega)]; rfl
def rs (s : ByteArray) : Int × Bool := if s.size = 2 then (bt s 0 * 256 + bt s 1, true) else (0, false)
theorem iRS (s : ByteArray) : impl_ReadShort.f s = some (rs s) := by
  unfold impl_ReadShort.f rs
  have h0 := bt_range s 0
  have h1 := bt_range s 1
  by_cases h : s.size = 2
  · rw [if_pos (by omega), if_pos (by omega), if_pos (by omega), if_pos h, w64 (n := bt s 0) (by omega) (by omega), w64 (n := bt s 1) (by omega) (by omega), w64 (by omega) (by omega), or8 _ _ h0.1 h0.2 h1.1 h1.2]
  · rw [if_neg (by omega), if_neg h]
theorem iBB4 (k : Nat) (x : Int) : impl_bigBytes.f (k + 5) x 4 = some (strOfNums (four x)) := by
  unfold impl_bigBytes.f
  simp (config := {maxSteps := 1000000}) [impl_bigBytes.l0, wrap64, List.replicate, four, Int.ediv_ediv]
theorem iBB8 (k : Nat) (x : Int) : impl_bigBytes.f (k + 9) x 8 = some (strOfNums (wbx x)) := by
  unfold impl_bigBytes.f
  simp (config := {maxSteps := 1000000}) [impl_bigBytes.l0, wrap64, List.replicate, wbx, Int.ediv_ediv]
theorem iWB (k : Nat) (a0 : Int) : impl_WordBytes.f (k + 9) a0 = some (wb a0) := by
  unfold impl_WordBytes.f
  rw [iBB8]; simp [u64, wb]
theorem iWB_ev (a0 : Int) : Ev (fun k => impl_WordBytes.f k a0) (wb a0) := ⟨9, fun k hk => by
  obtain ⟨m, rfl⟩ : ∃ m, k = m + 9 := ⟨k - 9, by omega⟩
  exact iWB m a0⟩
theorem iSB (n : Int) : impl_ShortBytes.f n = some (sb n) := by
  unfold impl_ShortBytes.f
  rw [iIn]; simp only [Option.bind_some, sb]
  by_cases h : 0 ≤ n ∧ n ≤ 65535
  · rw [if_pos (by simpa using h), if_pos h]
  · rw [if_neg (by simpa using h), if_neg h]
theorem iCrc_in (s : ByteArray) (x10 x11 : Int) (r : ByteArray) : ∀ (d j c : Nat), j + d = 8 → c < 4294967296 → Ev (fun k => impl_Crc.l0 k s (crcBits d c : Nat) x10 (wrap64 (x11 + 1))) r → Ev (fun k => impl_Crc.l1 k s (c : Nat) x10 x11 j) r := by
  intro d
  induction d with
  | zero =>
    intro j c hj hc h
    refine Ev.step (f := fun k => impl_Crc.l0 k s (c : Nat) x10 (wrap64 (x11 + 1))) (fun k => ?_) h
    simp only [impl_Crc.l1]; rw [if_neg (by omega)]
  | succ d ih =>
    intro j c hj hc h
    refine Ev.step (f := fun k => impl_Crc.l1 k s (crcBit c : Nat) x10 x11 ((j + 1 : Nat) : Int)) (fun k => ?_) (ih (j + 1) (crcBit c) (by omega) (crcBit_lt hc) h)
    simp only [impl_Crc.l1]; rw [if_pos (by omega), w64 (n := (j : Int) + 1) (by omega) (by omega), and1 c hc]
    have e2 : ((c : Int) / 2) = ((c / 2 : Nat) : Int) := by omega
    rw [e2]
    unfold crcBit
    by_cases h1 : c % 2 = 1
    · rw [if_pos (by omega), if_pos h1, show (3988292384 : Int) = ((3988292384 : Nat) : Int) from rfl, xorN _ _ (by omega) (by omega)]; rfl
    · rw [if_neg (by omega), if_neg h1]; rfl
theorem iCrc_out (s : ByteArray) (hs : s.size ≤ 4611686018427387904) : ∀ (d i : Nat), i + d = s.size → Ev (fun k => impl_Crc.l0 k s (crcAt s i : Nat) s.size i) (crcStr s) := by
  intro d
  induction d with
  | zero =>
    intro i hi
    obtain rfl : i = s.size := by omega
    refine Ev.step (f := fun k => (impl_bigBytes.f k (crcNum s : Nat) 4).bind fun t => some t) (fun k => ?_) ?_
    · simp only [impl_Crc.l0]; rw [if_neg (by omega), show (4294967295 : Int) = ((4294967295 : Nat) : Int) from rfl, xorN _ _ (by omega) (crcAt_lt s _), u64]
      have := crcNum_lt s
      rw [show ((4294967295 ^^^ crcAt s s.size : Nat) : Int) % 18446744073709551616 = (crcNum s : Nat) by unfold crcNum at *; omega]
    · refine ⟨5, fun k hk => ?_⟩
      obtain ⟨m, rfl⟩ : ∃ m, k = m + 5 := ⟨k - 5, by omega⟩
      show (impl_bigBytes.f (m + 5) (crcNum s : Nat) 4).bind _ = _
      rw [iBB4]; rfl
  | succ d ih =>
    intro i hi
    have hb := btN_le s i
    refine Ev.step (f := fun k => impl_Crc.l1 k s ((crcAt s i ^^^ btN s i : Nat) : Int) s.size i ((0 : Nat) : Int)) (fun k => ?_) ?_
    · simp only [impl_Crc.l0]; rw [if_pos (by omega), if_pos (by omega), if_pos (by omega), ← btN_cast, show ((btN s i : Nat) : Int) % 4294967296 = (btN s i : Nat) by omega, xorN _ _ (crcAt_lt s i) (by omega)]; rfl
    · refine iCrc_in s s.size i _ 8 0 _ rfl (xor_lt _ _ (crcAt_lt s i) (by omega)) ?_
      have := ih (i + 1) (by omega)
      rw [w64 (n := (i : Int) + 1) (by omega) (by omega)]
      exact this
theorem iCrc (s : ByteArray) (hs : s.size ≤ 20000) : Ev (fun k => impl_Crc.f k s) (crcStr s) := by
  refine Ev.congr (fun k => ?_) (iCrc_out s (by omega) s.size 0 (by omega))
  unfold impl_Crc.f; rw [if_neg (by omega)]; rfl
theorem iSealed (s : ByteArray) (hs : s.size ≤ 4611686018427387904) : Ev (fun k => impl_Sealed.f k s) (sealedP s) := by
  by_cases h : (s.size : Int) > 60
  · refine evIs fun k => ?_
    unfold impl_Sealed.f sealedP; rw [if_pos h, if_pos (by omega)]
  · have hz := pad_size s (by omega)
    have e : ∀ k, impl_Sealed.f k s = (impl_Crc.f k (pad s)).bind fun t => (if (pad s).size + t.size ≤ 9223372036854775807 then some (pad s ++ t) else none) := by
      intro k
      unfold impl_Sealed.f
      rw [if_neg h, w64 (by omega) (by omega), show (60 : Int) - (s.size : Int) = ((60 - s.size : Nat) : Int) by omega, iZeros _ (by omega)]
      simp only [Option.bind_some]
      rw [if_pos (by rw [zs_size]; omega)]; rfl
    refine evThen (iCrc (pad s) (by omega)) e (evIs fun k => ?_)
    rw [if_pos (by rw [hz, crcStr_size]; omega)]
    unfold sealedP; rw [if_neg (by omega)]
theorem iUns (s : ByteArray) : Ev (fun k => impl_Unsealed.f k s) (unsP s) := by
  by_cases h : s.size = 64
  · have hx : (s.extract 0 60).size = 60 := by rw [ByteArray.size_extract]; omega
    refine evThen (iCrc (s.extract 0 60) (by omega)) (f := fun _ t110 => if t110.toList = (s.extract 60 s.size).toList then (some (s.extract 0 60, true)) else (some ((⟨#[]⟩ : ByteArray), false))) (fun k => ?_) (evIs fun k => ?_)
    · unfold impl_Unsealed.f; rw [if_pos (by omega), if_pos (by omega), if_pos (by omega)]
    · unfold unsP
      by_cases c : crcStr (s.extract 0 60) = s.extract 60 s.size
      · rw [if_pos (toList_inj.mpr c), if_pos ⟨h, c⟩]
      · rw [if_neg (fun z => c (toList_inj.mp z)), if_neg (fun z => c z.2)]
  · refine evIs fun k => ?_
    unfold impl_Unsealed.f unsP; rw [if_neg (by omega), if_neg (fun z => h z.1)]
theorem iWl (s : ByteArray) (at_ : Int) (h0 : 0 ≤ at_) (hs : at_ + 8 ≤ (s.size : Int)) (hm : (s.size : Int) ≤ 9223372036854775807) (d : Nat) : ∀ (k j : Nat), j + d = 8 → d < k → impl_wordAt.l0 k s at_ (wrap64 (hn s at_ j)) j = some (wordP s at_) := by
  induction d with
  | zero =>
    intro k j hj hk
    obtain ⟨k, rfl⟩ : ∃ m, k = m + 1 := ⟨k - 1, by omega⟩
    obtain rfl : j = 8 := by omega
    simp only [impl_wordAt.l0]; rw [if_neg (by omega)]; rfl
  | succ d ih =>
    intro k j hj hk
    obtain ⟨k, rfl⟩ : ∃ m, k = m + 1 := ⟨k - 1, by omega⟩
    have hb := bt_range s (at_ + j)
    simp only [impl_wordAt.l0]; rw [w64 (n := at_ + (j : Int)) (by omega) (by omega), if_pos (by omega), if_pos (by omega), if_pos (by omega), w64 (n := (j : Int) + 1) (by omega) (by omega), w64 (n := bt s (at_ + j)) (by omega) (by omega)]
    have e : Go.bits .or .i64 (wrap64 (wrap64 (hn s at_ j) * 256)) (bt s (at_ + j)) = wrap64 (hn s at_ (j + 1)) := by
      rw [orW _ _ hb.1 hb.2]
      simp only [hn]; unfold wrap64; omega
    rw [e]; exact ih k (j + 1) (by omega) (by omega)
theorem iWA (k : Nat) (s : ByteArray) (at_ : Int) (h0 : 0 ≤ at_) (hs : at_ + 8 ≤ (s.size : Int)) (hm : (s.size : Int) ≤ 9223372036854775807) : impl_wordAt.f (k + 9) s at_ = some (wordP s at_) := by
  have e := iWl s at_ h0 hs hm 8 (k + 9) 0 (by omega) (by omega)
  simp only [hn, show ((0 : Nat) : Int) = 0 from rfl, w64 (n := 0) (by omega) (by omega)] at e
  exact e
theorem iWA_ev (s : ByteArray) (at_ : Int) (h0 : 0 ≤ at_) (hs : at_ + 8 ≤ (s.size : Int)) (hm : (s.size : Int) ≤ 9223372036854775807) : Ev (fun k => impl_wordAt.f k s at_) (wordP s at_) := ⟨9, fun k hk => by
  obtain ⟨m, rfl⟩ : ∃ m, k = m + 9 := ⟨k - 9, by omega⟩
  exact iWA m s at_ h0 hs hm⟩
theorem iEL (e : Int) : Ev (fun k => impl_EpochLine.f k e) (epochLineP e) := by
  unfold impl_EpochLine.f
  simp only [iIn, Option.bind_some]
  by_cases h : 0 ≤ e ∧ e ≤ 1000000000
  · simp only [show decide (0 ≤ e ∧ e ≤ 1000000000) = true by simpa using h, if_true]
    refine evThen (iWB_ev e) (fun k => rfl) (evThen (iSealed (wb e) (by rw [wb_size]; omega)) (f := fun _ t => some t) (fun k => rfl) (evIs fun k => ?_))
    unfold epochLineP; rw [if_pos h]
  · simp only [show decide (0 ≤ e ∧ e ≤ 1000000000) = false by simpa using h, Bool.false_eq_true, if_false]
    refine evIs fun k => ?_
    unfold epochLineP; rw [if_neg h]
theorem iRE (s : ByteArray) : Ev (fun k => impl_ReadEpoch.f k s) (readEpochP s) := by
  refine evThen (iUns s) (f := fun k bt131 => (if bt131.2 = true then ((impl_wordAt.f k bt131.1 0).bind fun t133 => ((impl_within.f t133 0 1000000000).bind fun t134 => (if t134 = true then ((impl_EpochLine.f k t133).bind fun t135 => (if t135.toList = s.toList then (some (t133, true)) else (some (0, false)))) else (some (0, false))))) else (some (0, false)))) (fun k => rfl) ?_
  unfold unsP
  by_cases c : s.size = 64 ∧ crcStr (s.extract 0 60) = s.extract 60 s.size
  · simp only [if_pos c, if_true]
    have hx : (s.extract 0 60).size = 60 := by rw [ByteArray.size_extract]; omega
    have hw : wordP (s.extract 0 60) 0 = wordP s 0 := by have := wordP_extract s 0 60 0 (by omega) (by omega) (by omega); simpa using this
    refine evThen (iWA_ev (s.extract 0 60) 0 (by omega) (by omega) (by omega)) (fun k => rfl) ?_
    simp only [hw, iIn, Option.bind_some]
    by_cases h : 0 ≤ wordP s 0 ∧ wordP s 0 ≤ 1000000000
    · simp only [show decide (0 ≤ wordP s 0 ∧ wordP s 0 ≤ 1000000000) = true by simpa using h, if_true]
      refine evThen (iEL _) (fun k => rfl) (evIs fun k => ?_)
      unfold readEpochP
      by_cases c2 : epochLineP (wordP s 0) = s
      · rw [if_pos (toList_inj.mpr c2), if_pos ⟨c.1, c2⟩]
      · rw [if_neg (fun z => c2 (toList_inj.mp z)), if_neg (fun z => c2 z.2)]
    · simp only [show decide (0 ≤ wordP s 0 ∧ wordP s 0 ≤ 1000000000) = false by simpa using h, Bool.false_eq_true, if_false]
      refine evIs fun k => ?_
      have hz : (epochLineP (wordP s 0)).size = 0 := by unfold epochLineP; rw [if_neg h]; rfl
      unfold readEpochP; rw [if_neg (fun z => by rw [z.2] at hz; omega)]
  · simp only [if_neg c, Bool.false_eq_true, if_false]
    refine evIs fun k => ?_
    unfold readEpochP; rw [if_neg (fun z => ?_)]
    by_cases h : 0 ≤ wordP s 0 ∧ wordP s 0 ≤ 1000000000
    · have e : sealedP (wb (wordP s 0)) = s := by have := z.2; unfold epochLineP at this; rwa [if_pos h] at this
      have u := uns_sealed (wb (wordP s 0)) (by rw [wb_size]; omega)
      rw [e] at u; unfold unsP at u; rw [if_neg c] at u; cases u
    · have hz : (epochLineP (wordP s 0)).size = 0 := by unfold epochLineP; rw [if_neg h]; rfl
      rw [z.2] at hz; omega
theorem iRLj (e q h : Int) (o : ByteArray) (hh : 0 ≤ h ∧ h ≤ 255) (ho : o.size = 32) : Ev (fun k => impl_RecordLine.j0 k false e q h o) (sealedP (recBody e q h o)) := by
  have z1 := one_sizeR (q % 256)
  have z2 := (rs_sb h ⟨hh.1, by omega⟩).1
  have z3 := wb_size e
  have z4 := recBody_size e q h o (by omega)
  refine Ev.step (f := fun k => _) (fun k => by simp (implicitDefEqProofs := false) only [impl_RecordLine.j0, Bool.false_eq_true, if_false, Option.bind_some]; rfl) ?_
  simp only [if_pos (show 1 + (strOfNums [q % 256]).size ≤ 9223372036854775807 by omega)]
  simp only [iSB, Option.bind_some]
  simp only [if_pos (show ((⟨#[85]⟩ : ByteArray) ++ strOfNums [q % 256]).size + (sb h).size ≤ 9223372036854775807 by rw [ByteArray.size_append, lit1_size]; omega)]
  refine evThen (iWB_ev e) (fun k => rfl) ?_
  simp only [if_pos (show (((⟨#[85]⟩ : ByteArray) ++ strOfNums [q % 256]) ++ sb h).size + (wb e).size ≤ 9223372036854775807 by rw [ByteArray.size_append, ByteArray.size_append, lit1_size]; omega), if_pos (show ((((⟨#[85]⟩ : ByteArray) ++ strOfNums [q % 256]) ++ sb h) ++ wb e).size + o.size ≤ 9223372036854775807 by rw [ByteArray.size_append, ByteArray.size_append, ByteArray.size_append, lit1_size]; omega)]
  exact evThen (iSealed (recBody e q h o) (by omega)) (f := fun _ t => some t) (fun k => rfl) (Ev.now _)
theorem iRLt (e q h : Int) (o : ByteArray) : Ev (fun k => impl_RecordLine.j0 k true e q h o) (⟨#[]⟩ : ByteArray) :=
  Ev.step (f := fun _ => some _) (fun k => by simp only [impl_RecordLine.j0, if_true]) (Ev.now _)
theorem iRL (e q h : Int) (o : ByteArray) : Ev (fun k => impl_RecordLine.f k e q h o) (recLineP e q h o) := by
  unfold impl_RecordLine.f recLineP
  simp only [iIn, Option.bind_some]
  by_cases c1 : 0 ≤ e ∧ e ≤ 999999999
  · simp only [show decide (0 ≤ e ∧ e ≤ 999999999) = true by simpa using c1, if_true]
    by_cases c2 : 0 ≤ q ∧ q ≤ 31
    · simp only [show decide (0 ≤ q ∧ q ≤ 31) = true by simpa using c2, if_true]
      by_cases c3 : 0 ≤ h ∧ h ≤ 255
      · simp only [show decide (0 ≤ h ∧ h ≤ 255) = true by simpa using c3, if_true]
        by_cases c4 : o.size = 32
        · rw [if_pos ⟨c1, c2, c3, c4⟩]
          simp only [show ((o.size : Int) != 32) = false by simp; omega]
          exact iRLj e q h o c3 c4
        · rw [if_neg (fun z => c4 z.2.2.2)]
          simp only [show ((o.size : Int) != 32) = true by simp; omega]
          exact iRLt e q h o
      · rw [if_neg (fun z => c3 z.2.2.1)]
        simp only [show decide (0 ≤ h ∧ h ≤ 255) = false by simpa using c3, Bool.false_eq_true, if_false]
        exact iRLt e q h o
    · rw [if_neg (fun z => c2 z.2.1)]
      simp only [show decide (0 ≤ q ∧ q ≤ 31) = false by simpa using c2, Bool.false_eq_true, if_false]
      exact iRLt e q h o
  · rw [if_neg (fun z => c1 z.1)]
    simp only [show decide (0 ≤ e ∧ e ≤ 999999999) = false by simpa using c1, Bool.false_eq_true, if_false]
    exact iRLt e q h o
theorem iRR (s : ByteArray) : Ev (fun k => impl_ReadRecord.f k s) (readRecP s) := by
  refine evThen (iUns s) (fun k => rfl) ?_
  unfold unsP
  by_cases c : s.size = 64 ∧ crcStr (s.extract 0 60) = s.extract 60 s.size
  · simp only [if_pos c, if_true]
    have hz : (s.extract 0 60).size = 60 := by rw [ByteArray.size_extract]; omega
    have hy : (s.extract 2 4).size = 2 := by rw [ByteArray.size_extract]; omega
    have x1 : (s.extract 0 60).extract 2 4 = s.extract 2 4 := by have := extract_extract s 0 60 2 4 (by omega); simpa using this
    have x2 : (s.extract 0 60).extract 12 44 = s.extract 12 44 := by have := extract_extract s 0 60 12 44 (by omega); simpa using this
    have hw : wordP (s.extract 0 60) 4 = wordP s 4 := by have := wordP_extract s 0 60 4 (by omega) (by omega) (by omega); simpa using this
    have b1 : bt (s.extract 0 60) 1 = bt s 1 := bt_ext0 s 0 60 1 (by omega) (by omega)
    have b2 : bt (s.extract 2 4) 0 = bt s 2 := bt_ext0 s 2 4 0 (by omega) (by omega)
    have b3 : bt (s.extract 2 4) 1 = bt s 3 := bt_ext0 s 2 4 1 (by omega) (by omega)
    have r1 := bt_range s 1
    have hrs : rs (s.extract 2 4) = (bt s 2 * 256 + bt s 3, true) := by unfold rs; rw [if_pos hy, b2, b3]
    simp only [if_pos (show 1 < ((s.extract 0 60).size : Int) by omega)]
    refine evThen (iWA_ev (s.extract 0 60) 4 (by omega) (by omega) (by omega)) (fun k => rfl) ?_
    simp only [if_pos (show (12 : Nat) ≤ 44 by omega), if_pos (show (44 : Int) ≤ ((s.extract 0 60).size : Int) by omega), if_pos (show (2 : Nat) ≤ 4 by omega), if_pos (show (4 : Int) ≤ ((s.extract 0 60).size : Int) by omega), x1, x2, iRS, hrs, hw, b1, Option.bind_some, w64 (n := bt s 1) (by omega) (by omega)]
    refine evThen (iRL _ _ _ _) (fun k => rfl) (evIs fun k => ?_)
    unfold readRecP
    by_cases c2 : recLineP (wordP s 4) (bt s 1) (bt s 2 * 256 + bt s 3) (s.extract 12 44) = s
    · rw [if_pos (toList_inj.mpr c2), if_pos ⟨c.1, c2⟩]
    · rw [if_neg (fun z => c2 (toList_inj.mp z)), if_neg (fun z => c2 z.2)]
  · simp only [if_neg c, Bool.false_eq_true, if_false]
    refine evIs fun k => ?_
    unfold readRecP; rw [if_neg (fun z => ?_)]
    have e := z.2
    unfold recLineP at e
    split at e
    · rename_i hc
      have u := uns_sealed (recBody (wordP s 4) (bt s 1) (bt s 2 * 256 + bt s 3) (s.extract 12 44)) (by rw [recBody_size _ _ _ _ (by omega)]; omega)
      rw [e] at u; unfold unsP at u; rw [if_neg c] at u; cases u
    · have := congrArg ByteArray.size e; rw [z.1] at this; simp [ByteArray.size] at this
theorem iCfg (a b c : Int) (l : List ByteArray) : impl_ConfigOk.f a b c l = some (cfgP a b c l) := by
  unfold impl_ConfigOk.f cfgP
  rw [iIn, Option.bind_some]
  by_cases c1 : 8 ≤ a ∧ a ≤ 128
  · have hm : mn 32 (wrap64 (a - 5)) = mn 32 (a - 5) := by rw [w64 (by omega) (by omega)]
    rw [decide_eq_true c1, if_pos rfl, hm, iIn, Option.bind_some]
    by_cases c2 : 1 ≤ b ∧ b ≤ mn 32 (a - 5)
    · rw [decide_eq_true c2, if_pos rfl, iIn, Option.bind_some]
      have c2' : (1 ≤ b ∧ b ≤ 32) ∧ b ≤ a - 5 := by unfold mn at c2; split at c2 <;> omega
      by_cases c4 : 2 ≤ c ∧ c ≤ 400
      · rw [decide_eq_true c4, if_pos rfl, show cfgB a b c = true from decide_eq_true ⟨c1, c2'.1, c2'.2, c4⟩, Bool.true_and]; rfl
      · rw [decide_eq_false c4, if_neg (by decide), cfgB_no (fun h => c4 h.2.2.2)]; rfl
    · rw [decide_eq_false c2, if_neg (by decide), cfgB_no (fun h => c2 (by unfold mn; split <;> omega))]; rfl
  · rw [decide_eq_false c1, if_neg (by decide), cfgB_no (fun h => c1 h.1)]; rfl
theorem iImg (a b c : Int) (l : List ByteArray) (s : ByteArray) : impl_isImage.f a b c l s = some (imgP a b c l s) := by
  unfold impl_isImage.f imgP
  rw [iCfg, Option.bind_some]
  by_cases h : cfgP a b c l = true
  · rw [if_pos h, img_eq s h, h, Bool.true_and]
  · rw [if_neg h, Bool.eq_false_iff.2 h, Bool.false_and]
theorem iLine (s : ByteArray) (n : Nat) (h : 64 * n + 64 ≤ s.size) (hs : s.size ≤ 1048576) : impl_lineOf.f s (n : Int) = some (lineP s n) := by
  unfold impl_lineOf.f lineP
  rw [w64 (n := 64 * (n : Int)) (by omega) (by omega), w64 (n := 64 * (n : Int) + 64) (by omega) (by omega), if_pos (by omega), if_pos (by omega), if_pos (by omega)]
  congr 2 <;> omega
theorem iEO (a b c : Int) (l : List ByteArray) (s : ByteArray) (hz : s.size ≤ 1048576) : Ev (fun k => impl_EpochOf.f k a b c l s) (epochOfP a b c l s) := by
  refine Ev.congr (fun k => by unfold impl_EpochOf.f; rw [iImg, Option.bind_some]) ?_
  unfold epochOfP
  by_cases h : imgP a b c l s = true
  · obtain ⟨h1, h2⟩ := imgP_of h
    obtain ⟨hc, _⟩ := cfgP_of h1
    simp only [if_pos h]
    refine Ev.congr (fun k => by rw [show (1 : Int) = ((1 : Nat) : Int) from rfl, iLine s 1 (by omega) hz, Option.bind_some]) (evThen (iRE _) (fun k => rfl) (evIs fun k => ?_))
    split <;> rfl
  · simp only [if_neg h]; exact evIs fun k => rfl
theorem iHalf {a b : Int} (c : Int) (T : List ByteArray) (ha : 0 ≤ a ∧ a ≤ 128) (hb : 0 ≤ b ∧ b ≤ 32) (h : Int) : impl_canLog.f a b c T h = some (halfP a b h) := by
  unfold impl_canLog.f
  rw [w64 (n := 4 + b) (by omega) (by omega), w64 (n := 2 * (4 + b)) (by omega) (by omega), w64 (n := 2 * a) (by omega) (by omega), w64 (n := 2 * a - 1) (by omega) (by omega)]
  unfold halfP impl_within.f
  by_cases h1 : h ≥ 4 <;> by_cases h2 : h ≤ 5 <;> by_cases h3 : h ≥ 2 * (4 + b) <;> by_cases h4 : h ≤ 2 * a - 1 <;> simp [h1, h2, h3, h4] <;> omega
theorem iLog_l (k0 : Nat) (e a b c : Int) (T : List ByteArray) (m : ByteArray) (ha : 0 ≤ a ∧ a ≤ 128) (hb : 0 ≤ b ∧ b ≤ 32) (hm : (m.size : Int) = 64 * a) (hba : b ≤ a - 5) : ∀ (n i : Nat) (out : List S83), i + n = b.toNat → Ev (fun k => impl_LogOf.l k e a b c T m n i out) (logL e a b m n i out) := by
  intro n
  induction n with
  | zero => intro i out _; exact Ev.now _
  | succ n ih =>
    intro i out hi
    have h0 := ih (i + 1) out (by omega)
    have ln := iLine m (4 + i) (by omega) (by omega)
    rw [show ((4 + i : Nat) : Int) = 4 + (i : Int) by omega] at ln
    refine Ev.congr (fun k => by rw [impl_LogOf.l, ln, Option.bind_some]) ?_
    refine evThen (iRR (lineP m (4 + i))) (fun k => rfl) ?_
    rw [logL]
    by_cases c1 : (readRecP (lineP m (4 + i))).2.2.2.2 = true
    · simp only [if_pos c1]
      by_cases c2 : (readRecP (lineP m (4 + i))).1 < e
      · simp only [if_pos c2]; exact h0
      · simp only [if_neg c2]
        by_cases c3 : e < (readRecP (lineP m (4 + i))).1
        · simp only [if_pos c3]; exact Ev.now _
        · simp only [if_neg c3]
          by_cases c4 : (out.length : Int) = (i : Int)
          · simp only [if_pos c4]
            by_cases c5 : (readRecP (lineP m (4 + i))).2.1 = (i : Int)
            · simp only [if_pos c5, iHalf c T ha hb, Option.bind_some]
              by_cases c6 : halfP a b (readRecP (lineP m (4 + i))).2.2.1 = true
              · simp only [if_pos c6]
                by_cases c7 : out.any (fun x => x.f2 == (readRecP (lineP m (4 + i))).2.2.1) = true
                · simp only [if_pos c7]; exact Ev.now _
                · simp only [if_neg c7]; rw [c5]; exact ih (i + 1) _ (by omega)
              · simp only [if_neg c6]; exact Ev.now _
            · simp only [if_neg c5]; exact Ev.now _
          · simp only [if_neg c4]; exact Ev.now _
    · simp only [if_neg c1]; exact h0
theorem iLO (a b c : Int) (T : List ByteArray) (m : ByteArray) (hz : m.size ≤ 1048576) : Ev (fun k => impl_LogOf.f k a b c T m) (logP a b c T m) := by
  refine evThen (iEO a b c T m hz) (fun k => rfl) ?_
  unfold logP
  by_cases g : epochOfP a b c T m < 0
  · simp only [if_pos g]; exact Ev.now _
  · obtain ⟨h1, h2⟩ := imgP_of (ep_img g)
    obtain ⟨hc, _⟩ := cfgP_of h1
    simp only [if_neg g, if_pos (show b ≤ 500 by omega)]
    exact iLog_l 0 _ a b c T m (by omega) (by omega) h2 (by omega) b.toNat 0 [] (by omega)
theorem safeE (s : ByteArray) (l : List S106) (i : Nat) (h : 64 * i + 64 ≤ s.size) (hs : s.size ≤ 1048576) : impl_Device_safeLine.f s l (i : Int) = some ⟨(blk s.data.toList i).toArray⟩ := by
  unfold impl_Device_safeLine.f
  rw [w64 (n := 64 * (i : Int)) (by omega) (by omega), w64 (n := 64 * (i : Int) + 64) (by omega) (by omega), if_pos (by omega), if_pos (by omega), if_pos (by omega)]
  congr 1
  apply ByteArray.ext
  rw [show (64 * (i : Int)).toNat = 64 * i by omega, show (64 * (i : Int) + 64).toNat = 64 * i + 64 by omega]
  apply Array.ext'
  unfold blk
  simp [ByteArray.data_extract, Array.toList_extract, List.extract_eq_take_drop]
  try (congr 1; omega)
theorem seenB_len (s : List UInt8) (i : Nat) (h : 64 * i + 64 ≤ s.length) : ∀ (l : List S106), (∀ x ∈ l, x.f1.size = 64) → (seenB s l i).length = 64 := by
  have key : ∀ (l : List S106) (a : List UInt8), a.length = 64 → (∀ x ∈ l, x.f1.size = 64) → (l.foldl (fun acc x => if x.f0 = (i : Int) then x.f1.data.toList else acc) a).length = 64 := by
    intro l
    induction l with
    | nil => intro a ha _; exact ha
    | cons x l ih =>
      intro a ha hx
      rw [List.foldl_cons]
      refine ih _ ?_ (fun y hy => hx y (by simp [hy]))
      split
      · rw [dlen]; exact hx x (by simp)
      · exact ha
  intro l hl
  exact key l _ (blk_length s i h) hl
theorem lineE (s : ByteArray) (l : List S106) (hd : DevOk s l) (hs : s.size ≤ 1048576) (hl : l.length ≤ 1048576) (i : Nat) (h : 64 * i + 64 ≤ s.size) : impl_Device_seenLine.f s l (i : Int) = some ⟨(seenB s.data.toList l i).toArray⟩ := by
  have hsr := srt_of hd
  have e := foldl_find (i : Int) l hsr (blk s.data.toList i)
  have ei : impl_Device_find.idx l (i : Int) = l.countP (fun x => decide (x.f0 < (i : Int))) := rfl
  unfold impl_Device_seenLine.f impl_Device_find.f
  rw [if_pos (show impl_Device_find.srt l from hsr), if_pos (by omega), Option.bind_some]
  simp only [ei]
  unfold seenB
  generalize hc : l.countP (fun x => decide (x.f0 < (i : Int))) = c at *
  have hle : c ≤ l.length := by rw [← hc]; exact List.countP_le_length
  by_cases c1 : c < l.length
  · have r := rd_nat l c c1
    have g : l[c]? = some l[c] := by simp [c1]
    have gd : l.getD c z106 = l[c] := by simp [List.getD, c1]
    rw [g, gd] at e
    rw [r]
    by_cases c2 : l[c].f0 = (i : Int)
    · rw [if_pos (by simp [c2])] at e
      rw [e]
      simp only [c1, c2, decide_true, Bool.and_self, if_true]
      rw [if_pos (by omega), if_pos (by omega)]
    · rw [if_neg (by simp [c2])] at e
      rw [e]
      simp only [c1, c2, decide_true, decide_false, Bool.and_false, Bool.false_eq_true, if_false]
      rw [safeE s l i h hs]; rfl
  · have g : l[c]? = none := by simp; omega
    rw [g] at e
    rw [if_neg (by simp)] at e
    rw [e]
    simp only [c1, decide_false, Bool.false_and, Bool.false_eq_true, if_false]
    rw [safeE s l i h hs]; rfl
theorem part_len (s : ByteArray) (l : List S106) (hd : DevOk s l) : ∀ i : Nat, 64 * i ≤ s.size → ((List.range i).flatMap (seenB s.data.toList l)).length = 64 * i
  | 0, _ => rfl
  | i + 1, h => by
    rw [List.range_succ, List.flatMap_append, List.length_append, part_len s l hd i (by omega)]
    simp only [List.flatMap_cons, List.flatMap_nil, List.append_nil]
    rw [seenB_len s.data.toList i (by rw [dlen]; omega) l (fun x hx => (okL_of hd x hx).2.2.1)]
    omega
theorem iSn_l (s : ByteArray) (l : List S106) (hd : DevOk s l) (hs : s.size ≤ 1048576) (hl : l.length ≤ 1048576) : ∀ (n i : Nat), i + n = s.size / 64 → Ev (fun k => impl_Device_seen.l s l k (i : Int) ((List.range i).flatMap (seenB s.data.toList l))) (seenL s.data.toList l) := by
  intro n
  have h1 := hd.1
  induction n with
  | zero =>
    intro i hi
    refine Ev.step (f := fun _ => some (seenL s.data.toList l)) (fun k => ?_) (Ev.now _)
    have ne : ¬ ((List.range i).flatMap (seenB s.data.toList l)) = [] := by
      intro z
      have := part_len s l hd i (by omega)
      rw [z] at this; simp at this; omega
    unfold impl_Device_seen.l
    rw [hasE s l _ hs, Option.bind_some, if_neg (by simp; omega), if_neg ne]
    unfold seenL
    rw [dlen, show s.size / 64 = i by omega]
  | succ n ih =>
    intro i hi
    have h := ih (i + 1) (by omega)
    have hp := part_len s l hd i (by omega)
    have hq : ((⟨(seenB s.data.toList l i).toArray⟩ : ByteArray)).size = 64 := by
      have := seenB_len s.data.toList i (by rw [dlen]; omega) l (fun x hx => (okL_of hd x hx).2.2.1)
      exact List.size_toArray.trans this
    refine Ev.step (f := fun k => impl_Device_seen.l s l k ((i + 1 : Nat) : Int) ((List.range (i + 1)).flatMap (seenB s.data.toList l))) (fun k => ?_) h
    rw [impl_Device_seen.l, hasE s l _ hs, Option.bind_some, if_pos (by simp; omega), lineE s l hd hs hl i (by omega), Option.bind_some, if_pos (by rw [hp, hq]; omega), List.range_succ, List.flatMap_append]
    simp
theorem iSn (s : ByteArray) (l : List S106) (hd : DevOk s l) (hs : s.size ≤ 1048576) (hl : l.length ≤ 1048576) : Ev (fun k => impl_Device_seen.f k s l) ⟨(seenL s.data.toList l).toArray⟩ := by
  have h := iSn_l s l hd hs hl (s.size / 64) 0 (by omega)
  refine evThen (g := fun k => impl_Device_seen.l s l k 0 []) (f := fun _ b => some ⟨b.toArray⟩) h (fun k => ?_) (Ev.now _)
  unfold impl_Device_seen.f
  cases impl_Device_seen.l s l k 0 [] <;> rfl
noncomputable def imgL (s : ByteArray) (l : List S106) : ByteArray := ⟨(seenL s.data.toList l).toArray⟩
theorem imgL_size {s : ByteArray} {l : List S106} (hd : DevOk s l) : (imgL s l).size = s.size := by
  have h := (seenL_blk s l hd 0 (by have := hd.1; omega)).2
  exact List.size_toArray.trans h
/-- the records, the epoch, and whether a device is right for the configuration -/
noncomputable def lonP (a b c : Int) (T : List ByteArray) (s : ByteArray) (l : List S106) : List S83 × Int × Bool := open Classical in if cfgP a b c T = true ∧ DevOk s l then ((logP a b c T (imgL s l)).1, epochOfP a b c T (imgL s l), (logP a b c T (imgL s l)).2) else ([], 0, false)
theorem logP_no {a b c : Int} {T : List ByteArray} {m : ByteArray} (h : ¬ imgP a b c T m = true) : logP a b c T m = ([], false) := by
  unfold logP epochOfP; rw [if_neg h, if_pos (by decide)]
theorem lonP_of {a b c : Int} {T : List ByteArray} {s : ByteArray} {l : List S106} (h : (lonP a b c T s l).2.2 = true) : cfgP a b c T = true ∧ DevOk s l ∧ (s.size : Int) = 64 * a ∧ lonP a b c T s l = ((logP a b c T (imgL s l)).1, epochOfP a b c T (imgL s l), true) ∧ 0 ≤ epochOfP a b c T (imgL s l) := by
  unfold lonP at h ⊢
  by_cases g : cfgP a b c T = true ∧ DevOk s l
  · rw [if_pos g] at h ⊢
    have hi : imgP a b c T (imgL s l) = true := by
      by_cases hi : imgP a b c T (imgL s l) = true
      · exact hi
      · rw [logP_no hi] at h; cases h
    have he : ¬ epochOfP a b c T (imgL s l) < 0 := by
      intro z
      unfold logP at h; rw [if_pos z] at h; cases h
    have hz := (imgP_of hi).2
    rw [imgL_size g.2] at hz
    exact ⟨g.1, g.2, hz, by simp only at h; rw [h], by omega⟩
  · rw [if_neg g] at h; cases h
theorem iLOn (a b c : Int) (T : List ByteArray) (s : ByteArray) (l : List S106) (hs : s.size ≤ 1048576) (hl : l.length ≤ 1048576) : Ev (fun k => impl_loggedOn.f k a b c T s l) (lonP a b c T s l) := by
  have no : Ev (fun k => impl_loggedOn.j0 k true a b c T s l) ([], 0, false) := evIs1 fun k => by simp only [impl_loggedOn.j0, if_true]
  refine Ev.congr (fun k => by unfold impl_loggedOn.f; rw [iCfg, Option.bind_some]) ?_
  unfold lonP
  by_cases h : cfgP a b c T = true
  · simp only [if_pos h]
    refine evThen (iDO s l hs hl) (fun k => rfl) ?_
    by_cases d : DevOk s l
    · rw [if_pos ⟨h, d⟩, (devOkB_iff s l).2 d]
      have hz := imgL_size d
      refine Ev.step (f := fun k => (impl_Device_seen.f k s l).bind fun t => (impl_LogOf.f k a b c T t).bind fun q => (impl_EpochOf.f k a b c T t).bind fun e => some (q.1, e, q.2)) (fun k => by simp only [impl_loggedOn.j0, Bool.not_true, Bool.false_eq_true, if_false]) ?_
      refine evThen (iSn s l d hs hl) (fun k => rfl) (evThen (iLO a b c T (imgL s l) (by omega)) (fun k => rfl) (evThen (iEO a b c T (imgL s l) (by omega)) (fun k => rfl) (Ev.now _)))
    · rw [if_neg (fun z => d z.2), show devOkB s l = false from Bool.eq_false_iff.2 (fun z => d ((devOkB_iff s l).1 z))]; exact no
  · simp only [if_neg h]
    rw [if_neg (fun z => h z.1)]; exact no
theorem sBad (a b c : Int) (T : List ByteArray) (s : ByteArray) (l : List S106) (hT : T.length ≤ 1048576) (hx : ∀ s ∈ T, s.size ≤ 9223372036854775807) (hs : s.size ≤ 1048576) (hl : l.length ≤ 1048576) : Ev (fun k => spec_l5Bad.f k a b c T s l) (!(lonP a b c T s l).2.2) := by
  by_cases d : DevOk s l
  · have hz := imgL_size d
    refine evThen (g := fun k => spec_Seen.f k s l) (a := imgL s l) ?_ (fun k => rfl) (evThen (sLO a b c T (imgL s l) hT hx (by omega)) (fun k => rfl) (evIs fun k => ?_))
    · refine evThen (sDO s l hs hl) (fun k => rfl) (evIs fun k => ?_)
      rw [(devOkB_iff s l).2 d, if_pos rfl, l2S s l d hs]; rfl
    · unfold lonP
      by_cases h : cfgP a b c T = true
      · rw [if_pos ⟨h, d⟩]
      · rw [if_neg (fun z => h z.1), logP_no (fun z => h (imgP_of z).1)]
  · refine evThen (g := fun k => spec_Seen.f k s l) (a := (⟨#[]⟩ : ByteArray)) ?_ (fun k => rfl) (evThen (sLO a b c T (⟨#[]⟩ : ByteArray) hT hx (by decide)) (fun k => rfl) (evIs fun k => ?_))
    · refine evThen (sDO s l hs hl) (fun k => rfl) (evIs fun k => ?_)
      rw [show devOkB s l = false from Bool.eq_false_iff.2 (fun z => d ((devOkB_iff s l).1 z)), if_neg (by decide)]
    · unfold lonP
      rw [if_neg (fun z => d z.2), logP_no (fun z => by
        obtain ⟨h1, h2⟩ := imgP_of z
        have h3 : ((⟨#[]⟩ : ByteArray).size : Int) = 0 := rfl
        obtain ⟨hc, _⟩ := cfgP_of h1
        omega)]
theorem fl_f0 (a : Int) (x : S106) : (fl a x).f0 = x.f0 := by unfold fl; split <;> rfl
theorem srt_map {l : List S106} {f : S106 → S106} (hf : ∀ x, (f x).f0 = x.f0) (h : srt l) : srt (l.map f) := by
  unfold srt at *
  rw [List.pairwise_map]
  exact h.imp fun {x y} e => by rw [hf, hf]; exact e
theorem devOk_fl {s : ByteArray} {l : List S106} (a : Int) (h : DevOk s l) : DevOk s (l.map (fl a)) := by
  refine devOk_of h.1.1 h.1.2 (fun x hx => ?_) (srt_map (fl_f0 a) (srt_of h))
  obtain ⟨z, hz, rfl⟩ := List.mem_map.1 hx
  have g := okL_of h z hz
  unfold fl
  by_cases c : z.f0 = a
  · rw [if_pos c]; exact ⟨g.1, g.2.1, g.2.2.1, Or.inl g.2.2.1⟩
  · rw [if_neg c]; exact g
theorem idx_at (l : List S106) (h : srt l) (y : Int) (j : Nat) (hj : j < l.length) (e : l[j].f0 = y) : impl_Device_find.idx l y = j := by
  have hp := List.pairwise_iff_getElem.1 h
  refine impl_Device_find.idx_eq l y j (by omega) (fun t ht => ?_) (fun t h1 h2 => ?_)
  · rw [rd_nat l t (by omega)]; have := hp t j (by omega) hj ht; omega
  · rw [rd_nat l t h2]
    rcases Nat.lt_or_ge j t with h3 | h3
    · have := hp j t hj h2 h3; omega
    · obtain rfl : t = j := by omega
      omega
theorem put_map (l : List S106) (h : srt l) (y : Int) : impl_Flush.put l ((impl_Device_find.idx l y : Nat) : Int) (decide (impl_Device_find.idx l y < l.length) && decide ((rd_T106 l (impl_Device_find.idx l y : Nat)).f0 = y)) = l.map (fl y) := by
  have hp := List.pairwise_iff_getElem.1 h
  by_cases c : ∃ j, ∃ hj : j < l.length, l[j].f0 = y
  · obtain ⟨j, hj, e⟩ := c
    rw [idx_at l h y j hj e, rd_nat l j hj]
    unfold impl_Flush.put
    rw [if_pos (by simp [hj, e]), rd_nat l j hj, Int.toNat_natCast]
    apply List.ext_getElem?
    intro i
    rw [List.getElem?_set, List.getElem?_map]
    by_cases hi : j = i
    · subst hi
      rw [if_pos rfl, if_pos hj]
      simp [fl, e, hj]
    · rw [if_neg hi]
      by_cases hl : i < l.length
      · have ne : ¬ l[i].f0 = y := by
          rcases Nat.lt_or_ge i j with h1 | h1
          · have := hp i j hl hj h1; omega
          · have := hp j i hj hl (by omega); omega
        simp [hl, fl, ne]
      · simp [hl]; try omega
  · have nb : (decide (impl_Device_find.idx l y < l.length) && decide ((rd_T106 l (impl_Device_find.idx l y : Nat)).f0 = y)) = false := by
      by_cases hb : impl_Device_find.idx l y < l.length
      · have : ¬ (rd_T106 l (impl_Device_find.idx l y : Nat)).f0 = y := fun z => c ⟨_, hb, by rw [rd_nat l _ hb] at z; exact z⟩
        simp [this]
      · simp [hb]
    rw [nb]
    unfold impl_Flush.put
    rw [if_neg (by decide)]
    apply List.ext_getElem?
    intro i
    rw [List.getElem?_map]
    by_cases hl : i < l.length
    · have ne : ¬ l[i].f0 = y := fun z => c ⟨i, hl, z⟩
      simp [hl, fl, ne]
    · simp [hl]; try omega
/-- a fence's outcome -/
def fnc (s : ByteArray) (l : List S106) : ByteArray × List S106 := (⟨(fenceL l s.data.toList []).1.toArray⟩, (fenceL l s.data.toList []).2)
theorem fenceL_size : ∀ (l : List S106) (b : List UInt8) (acc : List S106), (∀ x ∈ l, okL b.length x) → (fenceL l b acc).1.length = b.length
  | [], b, acc, _ => rfl
  | x :: xs, b, acc, h => by
    obtain ⟨h1, h2, h3, h4⟩ := h x (by simp)
    have e : (layd b x.f0.toNat x.f2.data.toList).length = b.length := layd_len _ _ _ (by rw [dlen]; omega)
    unfold fenceL
    rw [fenceL_size xs _ _ (fun y hy => by rw [e]; exact h y (by simp [hy])), e]
theorem fnc_ok {s : ByteArray} {l : List S106} (hd : DevOk s l) : DevOk (fnc s l).1 (fnc s l).2 ∧ (fnc s l).1.size = s.size := by
  have hz : (fnc s l).1.size = s.size := by
    have := fenceL_size l s.data.toList [] (fun x hx => by rw [dlen]; exact okL_of hd x hx)
    rw [dlen] at this; exact List.size_toArray.trans this
  have e2 : (fnc s l).2 = keepL l := by unfold fnc; rw [fence_acc]; rfl
  refine ⟨devOk_of (by rw [hz]; exact hd.1.1) (by rw [hz]; exact hd.1.2) (fun x hx => ?_) (by rw [e2]; exact srt_keepL (srt_of hd)), hz⟩
  rw [e2] at hx
  obtain ⟨z, hzm, rfl⟩ := keepL_mem hx
  have g := okL_of hd z hzm
  rw [hz]
  exact ⟨g.1, g.2.1, g.2.2.1, .inr rfl⟩
theorem iFnc {s : ByteArray} {l : List S106} (hd : DevOk s l) (hs : s.size ≤ 1048576) : impl_Fence.l l s [] = some (fnc s l) := iFe_l s.size hs l s [] rfl (okL_of hd) (by have := devOk_len hd; simp; omega)
theorem sFnc {s : ByteArray} {l : List S106} (hd : DevOk s l) (hs : s.size ≤ 1048576) : spec_l2Fence.f s l = some (fnc s l) := by
  unfold spec_l2Fence.f
  rw [if_pos (by omega), sFe_l l s.data.toList [] (fun x hx => by rw [dlen]; exact okL_of hd x hx) (by have := devOk_len hd; simp; omega)]
  rfl
theorem iFlm {s : ByteArray} {l : List S106} (hd : DevOk s l) (y : Int) : impl_machine.flushF s l y = some (l.map (fl y)) := by
  have hsr := srt_of hd
  have hn := devOk_len hd
  have e2 : impl_Device_find.f s l y = some (((impl_Device_find.idx l y : Nat) : Int), (decide (impl_Device_find.idx l y < l.length) && decide ((rd_T106 l (impl_Device_find.idx l y : Nat)).f0 = y))) := by
    unfold impl_Device_find.f
    rw [if_pos (show impl_Device_find.srt l from hsr), if_pos (by omega)]
  unfold impl_machine.flushF
  rw [e2, Option.bind_some]
  simp only
  rw [put_map l hsr y]
theorem sFlm {s : ByteArray} {l : List S106} (hl : l.length ≤ 1048576) (y : Int) : Ev (fun k => spec_l2Flush.f k s l y) (s, l.map (fl y)) := by
  have h := sFl_l s l y hl l.length 0 (by omega)
  refine Ev.congr (fun k => ?_) h
  unfold spec_l2Flush.f spec_l2Copy.f
  simp only [Option.bind_some]
  rw [if_pos (by simp; omega)]
  simp
theorem iStm {s : ByteArray} {l : List S106} (hd : DevOk s l) (hs : s.size ≤ 1048576) (y : Int) (o : Nat) (t : ByteArray) (hy : 0 ≤ y) (hys : 64 * y + 64 ≤ (s.size : Int)) (ho : o < 64) (ht : o + t.size ≤ 64) : impl_machine.storeF s l (64 * y + (o : Int)) t = some (storeL s y o t false l []) := by
  have e1 : Int.tdiv (64 * y + (o : Int)) 64 = y := by rw [Int.tdiv_eq_ediv_of_nonneg (by omega)]; omega
  have e2 : Int.tmod (64 * y + (o : Int)) 64 = (o : Int) := by rw [Int.tmod_eq_emod_of_nonneg (by omega)]; omega
  unfold impl_machine.storeF
  rw [e1, e2, w64 (by omega) (by omega)]
  exact put_store s l y o t hs (by have := devOk_len hd; omega) hd hy hys ht
theorem sStm {s : ByteArray} {l : List S106} (hd : DevOk s l) (hs : s.size ≤ 1048576) (y : Int) (o : Nat) (t : ByteArray) (hy : 0 ≤ y) (hys : 64 * y + 64 ≤ (s.size : Int)) (ho : o < 64) (ht : o + t.size ≤ 64) : spec_l2Store.f s l (64 * y + (o : Int)) t = some (s, storeL s y o t false l []) :=
  sStore s l y o t hs (by have := devOk_len hd; omega) hy hys ho ht (fun x hx => (okL_of hd x hx).2.2.1)
/-- a line stored, flushed and fenced -/
def syncP (s : ByteArray) (l : List S106) (y : Int) (t : ByteArray) : ByteArray × List S106 := fnc s ((storeL s y 0 t false l []).map (fl y))
theorem syncP_ok {s : ByteArray} {l : List S106} (hd : DevOk s l) (y : Int) (t : ByteArray) (hy : 0 ≤ y) (hys : 64 * y + 64 ≤ (s.size : Int)) (ht : t.size ≤ 64) : DevOk (syncP s l y t).1 (syncP s l y t).2 ∧ (syncP s l y t).1.size = s.size :=
  fnc_ok (devOk_fl y (store_DevOk s l y 0 t hd hy hys (by omega)))
theorem iSync {s : ByteArray} {l : List S106} (hd : DevOk s l) (hs : s.size ≤ 1048576) (y : Int) (t : ByteArray) (hy : 0 ≤ y) (hys : 64 * y + 64 ≤ (s.size : Int)) (ht : t.size ≤ 64) : impl_machine.syncF s l y t = some (syncP s l y t) := by
  have h := store_DevOk s l y 0 t hd hy hys (by omega)
  unfold impl_machine.syncF
  rw [w64 (by omega) (by omega), show 64 * y = 64 * y + ((0 : Nat) : Int) by omega, iStm hd hs y 0 t hy hys (by omega) (by omega), Option.bind_some, iFlm h, Option.bind_some, iFnc (devOk_fl y h) hs]
  rfl
/-- a half of an image -/
def hfP (s : ByteArray) (n : Int) : ByteArray := if 0 ≤ n ∧ 32 * n + 32 ≤ (s.size : Int) then s.extract (32 * n).toNat (32 * n + 32).toNat else (⟨#[]⟩ : ByteArray)
theorem iHf (s : ByteArray) (n : Int) (hs : s.size ≤ 4611686018427387904) : impl_Half.f s n = some (hfP s n) := by
  unfold impl_Half.f hfP
  by_cases h1 : n < 0
  · rw [if_pos h1, if_neg (by omega)]
  · rw [if_neg h1, w64 (n := (s.size : Int) / 32) (by omega) (by omega)]
    by_cases h2 : n ≥ (s.size : Int) / 32
    · rw [if_pos h2, if_neg (by omega)]
    · have e3 : wrap64 (32 * n) = 32 * n := w64 (by omega) (by omega)
      have e4 : wrap64 (32 * n + 32) = 32 * n + 32 := w64 (by omega) (by omega)
      rw [if_neg h2, e3, e4, if_pos (by omega), if_pos (by omega), if_pos (by omega), if_pos (by omega)]
theorem logP_lenb (a b c : Int) (T : List ByteArray) (m : ByteArray) : ((logP a b c T m).1.length : Int) ≤ (b.toNat : Int) := by
  unfold logP
  by_cases g : epochOfP a b c T m < 0
  · rw [if_pos g]; exact Int.natCast_nonneg _
  · rw [if_neg g]
    have := logL_len (epochOfP a b c T m) a b m b.toNat 0 [] (Nat.zero_le _)
    omega
theorem recLineP_le (e q h : Int) (o : ByteArray) : (recLineP e q h o).size ≤ 64 := by
  by_cases c : (0 ≤ e ∧ e ≤ 999999999) ∧ (0 ≤ q ∧ q ≤ 31) ∧ (0 ≤ h ∧ h ≤ 255) ∧ o.size = 32
  · rw [recLineP_size e q h o c]; omega
  · unfold recLineP; rw [if_neg c]; exact Nat.zero_le _
/-- what is saved of a half: the line of its record -/
noncomputable def noteLn (a b c : Int) (T : List ByteArray) (s : ByteArray) (l : List S106) (h : Int) : ByteArray := recLineP (epochOfP a b c T (imgL s l)) ((logP a b c T (imgL s l)).1.length : Int) h (hfP (imgL s l) h)
noncomputable def noteP (a b c : Int) (T : List ByteArray) (s : ByteArray) (l : List S106) (h : Int) : ByteArray × List S106 × Int := if (logP a b c T (imgL s l)).1.any (fun x => x.f2 == h) = true then (s, l, 0) else if ((logP a b c T (imgL s l)).1.length : Int) = b ∨ epochOfP a b c T (imgL s l) = 1000000000 then (s, l, 3) else ((syncP s l (4 + (logP a b c T (imgL s l)).1.length) (noteLn a b c T s l h)).1, (syncP s l (4 + (logP a b c T (imgL s l)).1.length) (noteLn a b c T s l h)).2, 0)
theorem half_in {a b h : Int} (ha : 8 ≤ a ∧ a ≤ 128) (hb : 1 ≤ b) (hba : b ≤ a - 5) (g : halfP a b h = true) : 0 ≤ h ∧ 32 * h + 32 ≤ 64 * a := by
  unfold halfP at g
  rw [decide_eq_true_eq] at g
  omega
theorem note_at {a b c : Int} {T : List ByteArray} {s : ByteArray} {l : List S106} (g : (lonP a b c T s l).2.2 = true) (hn : ¬ (((logP a b c T (imgL s l)).1.length : Int) = b)) : 64 * (4 + ((logP a b c T (imgL s l)).1.length : Int)) + 64 ≤ (s.size : Int) := by
  obtain ⟨h1, h2, h3, h4, h5⟩ := lonP_of g
  obtain ⟨hc, _⟩ := cfgP_of h1
  have := logP_lenb a b c T (imgL s l)
  omega
/-- a device that was noted on is right, of the same size -/
theorem noteP_ok {a b c : Int} {T : List ByteArray} {s : ByteArray} {l : List S106} {h : Int} (g : (lonP a b c T s l).2.2 = true) : DevOk (noteP a b c T s l h).1 (noteP a b c T s l h).2.1 ∧ (noteP a b c T s l h).1.size = s.size := by
  obtain ⟨h1, h2, h3, h4, h5⟩ := lonP_of g
  unfold noteP
  by_cases c1 : (logP a b c T (imgL s l)).1.any (fun x => x.f2 == h) = true
  · rw [if_pos c1]; exact ⟨h2, rfl⟩
  · rw [if_neg c1]
    by_cases c2 : ((logP a b c T (imgL s l)).1.length : Int) = b ∨ epochOfP a b c T (imgL s l) = 1000000000
    · rw [if_pos c2]; exact ⟨h2, rfl⟩
    · rw [if_neg c2]
      exact syncP_ok h2 _ _ (by omega) (note_at g (fun z => c2 (.inl z))) (recLineP_le _ _ _ _)
theorem iNote {a b c : Int} {T : List ByteArray} {s : ByteArray} {l : List S106} (h : Int) (hs : s.size ≤ 1048576) (hl : l.length ≤ 1048576) (g : (lonP a b c T s l).2.2 = true) : Ev (fun k => impl_machine.noteF k a b c T s l h) (noteP a b c T s l h) := by
  obtain ⟨h1, h2, h3, h4, h5⟩ := lonP_of g
  have hz := imgL_size h2
  have h32 := logP_len a b c T (imgL s l)
  refine evThen (iLOn a b c T s l hs hl) (fun k => rfl) ?_
  rw [h4]
  simp only [if_true, if_pos (show (logP a b c T (imgL s l)).1.length ≤ 1000 by omega)]
  unfold noteP
  by_cases c1 : (logP a b c T (imgL s l)).1.any (fun x => x.f2 == h) = true
  · simp only [if_pos c1]; exact Ev.now _
  · simp only [if_neg c1]
    by_cases c2 : ((logP a b c T (imgL s l)).1.length : Int) = b ∨ epochOfP a b c T (imgL s l) = 1000000000
    · simp only [if_pos c2]; exact Ev.now _
    · simp only [if_neg c2]
      refine evThen (iSn s l h2 hs hl) (fun k => rfl) ?_
      refine Ev.congr (fun k => by rw [show (⟨(seenL s.data.toList l).toArray⟩ : ByteArray) = imgL s l from rfl, iHf (imgL s l) h (by omega), Option.bind_some]) ?_
      refine evThen (iRL _ _ h _) (fun k => rfl) (evIs fun k => ?_)
      rw [show recLineP (epochOfP a b c T (imgL s l)) ((logP a b c T (imgL s l)).1.length : Int) h (hfP (imgL s l) h) = noteLn a b c T s l h from rfl, iSync h2 hs _ (noteLn a b c T s l h) (by omega) (note_at g (fun z => c2 (.inl z))) (show (noteLn a b c T s l h).size ≤ 64 from recLineP_le _ _ _ _), Option.bind_some]
theorem sNote {a b c : Int} {T : List ByteArray} {s : ByteArray} {l : List S106} (h : Int) (hT : T.length ≤ 1048576) (hx : ∀ s ∈ T, s.size ≤ 9223372036854775807) (hs : s.size ≤ 1048576) (g : (lonP a b c T s l).2.2 = true) (hh : halfP a b h = true) : Ev (fun k => spec_Ended.noteF k a b c T s l h) (noteP a b c T s l h) := by
  obtain ⟨h1, h2, h3, h4, h5⟩ := lonP_of g
  obtain ⟨hc, _⟩ := cfgP_of h1
  have hz := imgL_size h2
  have h32 := logP_len a b c T (imgL s l)
  obtain ⟨x1, x2⟩ := half_in hc.1 hc.2.1.1 hc.2.2.1 hh
  have e2 : spec_l2Seen.f s l = some (imgL s l) := l2S s l h2 hs
  refine Ev.congr (fun k => by unfold spec_Ended.noteF; rw [e2, Option.bind_some]) ?_
  refine evThen (sLO a b c T (imgL s l) hT hx (by omega)) (fun k => rfl) (evThen (sEO a b c T (imgL s l) hT hx (by omega)) (fun k => rfl) ?_)
  obtain ⟨q, hq, hqa⟩ := sPlace (logP a b c T (imgL s l)).1 h (by omega)
  refine evThen hq (fun k => rfl) ?_
  simp only [if_pos (show (logP a b c T (imgL s l)).1.length ≤ 1000000 by omega)]
  unfold noteP
  by_cases c1 : (logP a b c T (imgL s l)).1.any (fun x => x.f2 == h) = true
  · have e0 : 0 ≤ q := by rw [c1, decide_eq_true_eq] at hqa; exact hqa
    simp only [if_pos c1, if_pos e0]; exact Ev.now _
  · have e0 : ¬ 0 ≤ q := by rw [Bool.eq_false_iff.2 c1, decide_eq_false_iff_not] at hqa; exact hqa
    simp only [if_neg c1, if_neg e0]
    by_cases c2 : ((logP a b c T (imgL s l)).1.length : Int) = b ∨ epochOfP a b c T (imgL s l) = 1000000000
    · simp only [if_pos c2]; exact Ev.now _
    · have eh : (imgL s l).extract (32 * h).toNat (32 * h + 32).toNat = hfP (imgL s l) h := by unfold hfP; rw [if_pos ⟨x1, by omega⟩]
      have hat := note_at g (fun z => c2 (.inl z))
      have hle := recLineP_le (epochOfP a b c T (imgL s l)) ((logP a b c T (imgL s l)).1.length : Int) h (hfP (imgL s l) h)
      simp only [if_neg c2, if_pos (show 0 ≤ h ∧ 32 * h + 32 ≤ ((imgL s l).size : Int) ∧ ((imgL s l).size : Int) ≤ 9223372036854775807 by omega), eh]
      refine evThen (sRL _ _ h _) (fun k => rfl) ?_
      have h6 := store_DevOk s l (4 + ((logP a b c T (imgL s l)).1.length : Int)) 0 _ h2 (by omega) hat (by rw [Nat.zero_add]; exact hle)
      have h7 := sStm h2 hs (4 + ((logP a b c T (imgL s l)).1.length : Int)) 0 _ (by omega) hat (by omega) (by rw [Nat.zero_add]; exact hle)
      rw [show (64 * (4 + ((logP a b c T (imgL s l)).1.length : Int)) + ((0 : Nat) : Int)) = 64 * (4 + ((logP a b c T (imgL s l)).1.length : Int)) by omega] at h7
      refine Ev.congr (fun k => by rw [h7, Option.bind_some]) ?_
      refine evThen (sFlm (Nat.le_trans (devOk_len h6) (by decide)) _) (fun k => rfl) (evIs fun k => ?_)
      rw [sFnc (devOk_fl _ h6) hs, Option.bind_some]
      rfl
/-- bytes that may be logged at a place -/
def logIn (a b x : Int) (t : ByteArray) : Prop := 0 ≤ x ∧ halfP a b (x / 32) = true ∧ 1 ≤ (t.size : Int) ∧ x % 32 + (t.size : Int) ≤ 32
instance (a b x : Int) (t : ByteArray) : Decidable (logIn a b x t) := by unfold logIn; exact inferInstance
theorem log_at {a b c : Int} {T : List ByteArray} {s : ByteArray} {l : List S106} {x : Int} {t : ByteArray} (g : (lonP a b c T s l).2.2 = true) (h : logIn a b x t) : 0 ≤ x / 64 ∧ 64 * (x / 64) + 64 ≤ (s.size : Int) ∧ (x % 64).toNat < 64 ∧ (x % 64).toNat + t.size ≤ 64 ∧ 64 * (x / 64) + (((x % 64).toNat : Nat) : Int) = x := by
  obtain ⟨h1, h2, h3, h4, h5⟩ := lonP_of g
  obtain ⟨hc, _⟩ := cfgP_of h1
  obtain ⟨x0, xh, x1, x2⟩ := h
  have hi := half_in hc.1 hc.2.1.1 hc.2.2.1 xh
  omega
noncomputable def loggedP (a b c : Int) (T : List ByteArray) (s : ByteArray) (l : List S106) (x : Int) (t : ByteArray) : ByteArray × List S106 × Int := if (lonP a b c T s l).2.2 = true then (if logIn a b x t then (if (noteP a b c T s l (x / 32)).2.2 = 0 then ((noteP a b c T s l (x / 32)).1, storeL (noteP a b c T s l (x / 32)).1 (x / 64) (x % 64).toNat t false (noteP a b c T s l (x / 32)).2.1 [], 0) else ((⟨#[]⟩ : ByteArray), [], (noteP a b c T s l (x / 32)).2.2)) else ((⟨#[]⟩ : ByteArray), [], 2)) else ((⟨#[]⟩ : ByteArray), [], 1)
theorem loggedP_len (a b c : Int) (T : List ByteArray) (s : ByteArray) (l : List S106) (x : Int) (t : ByteArray) : (loggedP a b c T s l x t).2.1.length ≤ 1048576 := by
  unfold loggedP
  by_cases g : (lonP a b c T s l).2.2 = true
  · rw [if_pos g]
    by_cases h : logIn a b x t
    · rw [if_pos h]
      obtain ⟨y0, y1, y2, y3, y4⟩ := log_at g h
      have N := noteP_ok (h := x / 32) g
      have := devOk_len (store_DevOk _ _ (x / 64) (x % 64).toNat t N.1 y0 (by rw [N.2]; exact y1) y3)
      split
      · show (storeL _ _ _ _ _ _ _).length ≤ _; omega
      · exact Nat.zero_le _
    · rw [if_neg h]; exact Nat.zero_le _
  · rw [if_neg g]; exact Nat.zero_le _
theorem tdiv32 {x : Int} (h : 0 ≤ x) (hx : x ≤ 9223372036854775807) : wrap64 (Int.tdiv x 32) = x / 32 := by
  rw [Int.tdiv_eq_ediv_of_nonneg h]; exact w64 (by omega) (by omega)
theorem tmod32 {x : Int} (h : 0 ≤ x) : Int.tmod x 32 = x % 32 := Int.tmod_eq_emod_of_nonneg h
theorem sLogged (a b c : Int) (T : List ByteArray) (s : ByteArray) (l : List S106) (x : Int) (t : ByteArray) (hT : T.length ≤ 1048576) (hx : ∀ s ∈ T, s.size ≤ 9223372036854775807) (hs : s.size ≤ 1048576) (hl : l.length ≤ 1048576) (hxx : x ≤ 9223372036854775807) (ht : t.size ≤ 1048576) : Ev (fun k => spec_Logged.f k a b c T s l x t) (loggedP a b c T s l x t) := by
  have e1 : spec_l2Copy.f s l = some (s, l) := by
    unfold spec_l2Copy.f
    rw [Option.bind_some, if_pos (by simp; omega)]; rfl
  refine evThen (sBad a b c T s l hT hx hs hl) (fun k => rfl) ?_
  unfold loggedP
  by_cases g : (lonP a b c T s l).2.2 = true
  · obtain ⟨h1, h2, h3, h4, h5⟩ := lonP_of g
    obtain ⟨hc, _⟩ := cfgP_of h1
    rw [if_pos g]
    refine Ev.congr (fun k => by rw [g, Bool.not_true, if_neg (by decide), if_pos ht]) ?_
    by_cases x0 : x < 0
    · simp only [if_pos x0]
      rw [if_neg (fun z : logIn a b x t => by have := z.1; omega)]; exact Ev.now _
    · simp only [if_neg x0, sIn, Option.bind_some, tdiv32 (show 0 ≤ x by omega) hxx, tmod32 (show 0 ≤ x by omega), sHalf c T (show 0 ≤ a ∧ a ≤ 128 by omega) (show 0 ≤ b ∧ b ≤ 32 by omega)]
      by_cases hw : 1 ≤ (t.size : Int) ∧ (t.size : Int) ≤ 32
      · simp only [decide_eq_true hw, if_true]
        by_cases hg : 32 < x % 32 + (t.size : Int)
        · simp only [if_pos hg]
          rw [if_neg (fun z : logIn a b x t => by have := z.2.2.2; omega)]; exact Ev.now _
        · simp only [if_neg hg]
          by_cases hh : halfP a b (x / 32) = true
          · have hL : logIn a b x t := ⟨by omega, hh, hw.1, by omega⟩
            obtain ⟨y0, y1, y2, y3, y4⟩ := log_at g hL
            have N := noteP_ok (h := x / 32) g
            rw [if_pos hL]
            simp only [if_pos hh, e1, Option.bind_some]
            refine evThen (sNote (x / 32) hT hx hs g hh) (fun k => rfl) (evIs fun k => ?_)
            by_cases z : (noteP a b c T s l (x / 32)).2.2 = 0
            · have h7 := sStm N.1 (by rw [N.2]; exact hs) (x / 64) (x % 64).toNat t y0 (by rw [N.2]; exact y1) y2 y3
              rw [y4] at h7
              simp only [if_pos z, h7, Option.bind_some]
            · simp only [if_neg z]
          · simp only [if_neg hh]
            rw [if_neg (fun z : logIn a b x t => hh z.2.1)]; exact Ev.now _
      · simp only [decide_eq_false hw, Bool.false_eq_true, if_false]
        rw [if_neg (fun z : logIn a b x t => hw ⟨z.2.2.1, by have := z.2.2.2; omega⟩)]; exact Ev.now _
  · rw [if_neg g]; exact evIs fun k => by rw [if_pos (by simp [g])]
theorem iLogged (a b c : Int) (T : List ByteArray) (s : ByteArray) (l : List S106) (x : Int) (t : ByteArray) (hs : s.size ≤ 1048576) (hl : l.length ≤ 1048576) (hxx : x ≤ 9223372036854775807) : Ev (fun k => impl_Logged.f k a b c T s l x t) (loggedP a b c T s l x t) := by
  have e1 : impl_Device_own.f s l = some (s, l) := by
    unfold impl_Device_own.f impl_Line.f
    rw [if_pos (by omega)]; rfl
  refine evThen (iLOn a b c T s l hs hl) (fun k => rfl) ?_
  unfold loggedP
  by_cases g : (lonP a b c T s l).2.2 = true
  · obtain ⟨h1, h2, h3, h4, h5⟩ := lonP_of g
    obtain ⟨hc, _⟩ := cfgP_of h1
    rw [if_pos g]
    simp only [if_pos g]
    by_cases x0 : x < 0
    · simp only [if_pos x0]
      rw [if_neg (fun z : logIn a b x t => by have := z.1; omega)]; exact Ev.now _
    · simp only [if_neg x0, tdiv32 (show 0 ≤ x by omega) hxx, iHalf c T (show 0 ≤ a ∧ a ≤ 128 by omega) (show 0 ≤ b ∧ b ≤ 32 by omega), Option.bind_some, tmod32 (show 0 ≤ x by omega), iIn]
      by_cases hh : halfP a b (x / 32) = true
      · simp only [if_pos hh]
        by_cases hw : 1 ≤ (t.size : Int) ∧ (t.size : Int) ≤ 32 - x % 32
        · have hL : logIn a b x t := ⟨by omega, hh, hw.1, by omega⟩
          obtain ⟨y0, y1, y2, y3, y4⟩ := log_at g hL
          have N := noteP_ok (h := x / 32) g
          rw [if_pos hL]
          simp only [decide_eq_true hw, if_true, e1, Option.bind_some]
          refine evThen (g := fun k => impl_machine.loggedF k a b c T s l x t) (a := if (noteP a b c T s l (x / 32)).2.2 = 0 then ((noteP a b c T s l (x / 32)).1, storeL (noteP a b c T s l (x / 32)).1 (x / 64) (x % 64).toNat t false (noteP a b c T s l (x / 32)).2.1 [], 0) else noteP a b c T s l (x / 32)) ?_ (fun k => rfl) (evIs fun k => ?_)
          · refine Ev.congr (fun k => by unfold impl_machine.loggedF; rw [tdiv32 (show 0 ≤ x by omega) hxx]) ?_
            refine evThen (iNote (x / 32) hs hl g) (fun k => rfl) (evIs fun k => ?_)
            split
            · have h7 := iStm N.1 (by rw [N.2]; exact hs) (x / 64) (x % 64).toNat t y0 (by rw [N.2]; exact y1) y2 y3
              rw [y4] at h7
              rw [h7]; rfl
            · rfl
          · by_cases z : (noteP a b c T s l (x / 32)).2.2 = 0
            · simp only [if_pos z, if_true]
            · simp only [if_neg z]
        · simp only [decide_eq_false hw, Bool.false_eq_true, if_false]
          rw [if_neg (fun z : logIn a b x t => hw ⟨z.2.2.1, by have := z.2.2.2; omega⟩)]; exact Ev.now _
      · simp only [if_neg hh]
        rw [if_neg (fun z : logIn a b x t => hh z.2.1)]; exact Ev.now _
  · rw [if_neg g]; exact evIs fun k => by rw [if_neg g]
open Classical in
/-- the text of a mark -/
noncomputable def txtP (a : Int) : ByteArray := if h : ∃ r, Ev (fun k => laws_markText.f k a) r then Classical.choose h else (⟨#[]⟩ : ByteArray)
theorem txt_ev (a : Int) (h : a ≤ 1000000000) : Ev (fun k => laws_markText.f k a) (txtP a) := by
  have e := markText_ev a h
  unfold txtP; rw [dif_pos e]; exact Classical.choose_spec e
noncomputable def mksP : Nat → Int → List ByteArray
  | 0, _ => []
  | n + 1, a => txtP a :: mksP n (a + 1)
theorem mksP_len : ∀ (n : Nat) (a : Int), (mksP n a).length = n
  | 0, _ => rfl
  | n + 1, a => by rw [mksP, List.length_cons, mksP_len n]
theorem mksP_snoc : ∀ (n : Nat) (a : Int), mksP (n + 1) a = mksP n a ++ [txtP (a + n)]
  | 0, a => by simp [mksP]
  | n + 1, a => by
    show txtP a :: mksP (n + 1) (a + 1) = _
    rw [mksP_snoc n (a + 1)]
    simp [mksP]
    try (congr 1; omega)
theorem markStrsX_l (l : List ByteArray) (hl : l.length ≤ 1048576) : ∀ (n i : Nat), i + n = l.length → Ev (fun k => laws_markStringS.l0 k (mksP i 1 ++ l.drop i) (1 + (i : Int)) (i : Int)) (1 + (l.length : Int), mksP l.length 1) := by
  intro n
  induction n with
  | zero =>
    intro i hi
    obtain rfl : i = l.length := by omega
    refine evIs1 (fun k => ?_)
    simp only [laws_markStringS.l0]
    rw [if_neg (by simp [mksP_len])]
    simp
  | succ n ih =>
    intro i hi
    have h := ih (i + 1) (by omega)
    have hil : i < l.length := by omega
    refine Ev.step (f := fun k => (laws_markText.f k (1 + (i : Int))).bind fun t => laws_markStringS.l0 k ((mksP i 1 ++ l.drop i).set i t) (1 + ((i + 1 : Nat) : Int)) ((i + 1 : Nat) : Int)) (fun k => ?_) (evThen (txt_ev (1 + (i : Int)) (by omega)) (fun k => rfl) ?_)
    · simp only [laws_markStringS.l0]
      rw [if_pos (by simp [mksP_len]; omega), w64 (n := 1 + (i : Int) + 1) (by omega) (by omega), w64 (n := (i : Int) + 1) (by omega) (by omega)]
      simp only [if_pos (show (0 : Int) ≤ (i : Int) by omega), Int.toNat_natCast, show (1 : Int) + (i : Int) + 1 = 1 + ((i + 1 : Nat) : Int) by omega]
      rfl
    · have e : (mksP i 1 ++ l.drop i).set i (txtP (1 + (i : Int))) = mksP (i + 1) 1 ++ l.drop (i + 1) := by
        rw [List.set_append_right _ _ (by rw [mksP_len]; omega), mksP_len, Nat.sub_self, List.drop_eq_getElem_cons hil, List.set_cons_zero, mksP_snoc, List.append_assoc]; rfl
      rw [e]; exact h
theorem markStrsX_ev (l : List ByteArray) (hl : l.length ≤ 1048576) : Ev (fun k => laws_markStringS.f k l 1) (1 + (l.length : Int), mksP l.length 1) := by
  have h := markStrsX_l l hl l.length 0 (by omega)
  exact Ev.congr (fun k => by unfold laws_markStringS.f; simp [mksP]) h
theorem szDevice_evG (s : ByteArray) (l : List S103) (hs : s.size ≤ 9223372036854775807) (hl : l.length ≤ 9223372036854775807) (n : Int) (h0 : n ≤ 1048576) (h1 : 0 ≤ n) : ∃ r, Ev (fun k => laws_szDevice.f k s l n) r ∧ (0 ≤ r → s.size ≤ 1048576 ∧ l.length ≤ 1048576) := by
  by_cases c : wrap64 (n - (s.size : Int)) < 0
  · exact ⟨-1, evIs fun k => by unfold laws_szDevice.f; rw [if_pos c], by omega⟩
  · have c' := c
    rw [w64 (by omega) (by omega)] at c'
    have e : wrap64 (n - (s.size : Int)) = n - (s.size : Int) := w64 (by omega) (by omega)
    obtain ⟨r, hr, hb⟩ := szLineS_ev l hl (wrap64 (n - (s.size : Int))) (by omega) (by omega)
    by_cases d : r < 0
    · exact ⟨-1, evThen hr (fun k => by unfold laws_szDevice.f; rw [if_neg c]) (evIs fun k => by rw [if_pos d]), by omega⟩
    · exact ⟨r, evThen hr (fun k => by unfold laws_szDevice.f; rw [if_neg c]) (evIs fun k => by rw [if_neg d]), fun _ => ⟨by omega, hb (by omega)⟩⟩
theorem markC_ev (a b c : Int) (T : List ByteArray) (hT : T.length ≤ 1048576) : ∃ r, Ev (fun k => laws_markConfig.f k a b c T 1) r ∧ 0 ≤ r.1 ∧ r.1 ≤ 1048577 :=
  ⟨(1 + (T.length : Int), mksP T.length 1), evThen (markStrsX_ev T hT) (fun k => rfl) (Ev.now _), by show (0 : Int) ≤ 1 + (T.length : Int); omega, by show 1 + (T.length : Int) ≤ 1048577; omega⟩
theorem markD_ev (s : ByteArray) (l : List S106) (a : Int) (hl : l.length ≤ 1048576) (h0 : 0 ≤ a) (h1 : a ≤ 1048577) : ∃ r, Ev (fun k => laws_markDevice.f k s l a) r ∧ 0 ≤ r.1 := by
  obtain ⟨r, hr, h0⟩ := markLineS_l l.length l 0 a hl (by omega) (by omega) (by omega)
  exact ⟨(r.1, r.2), evThen (g := fun k => laws_markLineS.f k l a) hr (f := fun _ b => some (b.1, b.2)) (fun k => by unfold laws_markDevice.f; rfl) (Ev.now _), h0⟩
theorem FnExactLogged (a b c : Int) (T : List ByteArray) (s : ByteArray) (l : List S103) (x : Int) (tx : ByteArray) (ha : -9223372036854775808 ≤ a ∧ a ≤ 9223372036854775807) (hb : -9223372036854775808 ≤ b ∧ b ≤ 9223372036854775807) (hc : -9223372036854775808 ≤ c ∧ c ≤ 9223372036854775807) (hl : T.length ≤ 9223372036854775807) (hx : ∀ s ∈ T, s.size ≤ 9223372036854775807) (hs : s.size ≤ 9223372036854775807) (hn : l.length ≤ 9223372036854775807) (hh : -9223372036854775808 ≤ x ∧ x ≤ 9223372036854775807) (htx : tx.size ≤ 9223372036854775807) : ∃ k, laws_FnExactLogged.f k a b c T s l x tx = some true := by
  refine Ev.rounds (r := true) ?_
  unfold laws_FnExactLogged.f
  by_cases hbig : (tx.size : Int) > 1048576
  · simp only [if_pos hbig]; exact Ev.now _
  simp only [if_neg hbig]
  obtain ⟨r, hr, r1, _, hbT⟩ := szConfig_ev a b c T hl hx 1048576 (by omega) (by omega)
  refine evThen hr (fun k => rfl) ?_
  by_cases d : r < 0
  · simp only [if_pos d]; exact Ev.now _
  simp only [if_neg d]
  obtain ⟨hT, hx'⟩ := hbT (by omega)
  obtain ⟨u, hu, hbD⟩ := szDevice_evG s l hs hn r (by omega) (by omega)
  refine evThen hu (fun k => rfl) ?_
  by_cases d2 : u < 0
  · simp only [if_pos d2]; exact Ev.now _
  simp only [if_neg d2]
  obtain ⟨hs', hl'⟩ := hbD (by omega)
  refine evThen (g := fun k => laws_FnExactLogged.good k a b c T s l x tx) (a := ()) ?_ (fun k => rfl) (Ev.now _)
  have hm : (l.map cv).length ≤ 1048576 := by rw [List.length_map]; exact hl'
  refine evThen (toConfig_ev a b c T hT) (fun k => rfl) (evThen (toDevice_ev s l hl') (fun k => rfl) (evThen (sLogged a b c T s (l.map cv) x tx hT hx hs' hm hh.2 (by omega)) (fun k => rfl) (evThen (iLogged a b c T s (l.map cv) x tx hs' hm hh.2) (fun k => rfl) ?_)))
  have hp := loggedP_len a b c T s (l.map cv) x tx
  generalize loggedP a b c T s (l.map cv) x tx = R at *
  obtain ⟨R1, R2, R3⟩ := R
  simp only at hp
  have mh := markHeld_ev R1 R2 hp
  obtain ⟨m1, hm1, m0, mu⟩ := markC_ev a b c T hT
  obtain ⟨m2, hm2, m3⟩ := markD_ev s (l.map cv) m1.1 hm m0 mu
  refine Ev.congr (fun k => by rw [eqDevice_refl, Option.bind_some, if_pos rfl, eqConfig_refl, Option.bind_some, eqDevice_refl, Option.bind_some]) ?_
  refine evThen hm1 (fun k => rfl) (evThen hm2 (fun k => rfl) ?_)
  simp only [if_neg (show ¬ m2.1 < 0 by omega)]
  refine evThen mh.1 (fun k => rfl) (evThen (mh.2 R1) (fun k => rfl) (evIs fun k => ?_))
  simp only [if_neg (show ¬ (1 + 3 * (R2.length : Int)) < 0 by omega), if_true]
end Go.Proofs.YtngccjeicolcpaaGreatDoor.Pure
