/- The program's ReadObject tells what the reference's tells: the same words are read, and the object is taken if it tells the same bytes. -/
import Derived.Test.YtknllhfhcgahiaaDoorPFnExactReadObjectx0
import Derived.Test.YtknllhfhcgahiaaDoorPFnExactReadObjectx1
import Derived.Test.YtknllhfhcgahiaaDoorPFnExactReadObjectx2
import Derived.Test.YtknllhfhcgahiaaDoorPFnExactReadObjectx3
import Derived.Test.YtknllhfhcgahiaaDoorPFnExactReadObjectx4
import Derived.Test.YtknllhfhcgahiaaDoorPFnExactReadObjectx5
import Derived.Test.YtknllhfhcgahiaaDoorPFnExactReadObjectx6
import Derived.Test.YtknllhfhcgahiaaDoorPFnExactReadObjectx7
namespace Go.Proofs.YtknllhfhcgahiaaDoor.Pure
open Go.RowKit Go.Proofs.YtknllhfhcgahiaaDoor.PFnExactReadObject Go.Proofs.YtknllhfhcgahiaaDoorW.PrintWords Go.Proofs.YtknllhfhcgahiaaDoorW.PrintLast
set_option linter.unusedVariables false
set_option linter.unusedSimpArgs false
theorem w64 {n : Int} (h0 : -9223372036854775808 ≤ n) (h1 : n ≤ 9223372036854775807) : wrap64 n = n := by unfold wrap64; omega
theorem u64 (n : Int) : IntKind.u64.wrap n = n % 18446744073709551616 := by simp [IntKind.wrap, IntKind.bits, IntKind.signed]
theorem evThen {α β : Type} {g : Nat → Option α} {h : Nat → Option β} {f : Nat → α → Option β} {a : α} {r : β} (e : Ev g a) (he : ∀ k, h k = (g k).bind (f k)) (k : Ev (fun n => f n a) r) : Ev h r := Ev.congr he (Ev.bind e k)
theorem evIs {α : Type} {g : Nat → Option α} {r : α} (h : ∀ k, g k = some r) : Ev g r := ⟨0, fun k _ => h k⟩
theorem evIs1 {α : Type} {g : Nat → Option α} {r : α} (h : ∀ k, g (k + 1) = some r) : Ev g r := ⟨1, fun k hk => by cases k with | zero => omega | succ k => exact h k⟩
theorem rdS (l : List ByteArray) (i : Nat) (h : i < l.length) : rdOf ByteArray.empty l (i : Int) = l[i] := by
  unfold rdOf; rw [Int.toNat_natCast, List.getD_eq_getElem?_getD, List.getElem?_eq_getElem h]; rfl
theorem szStringS_l (l : List ByteArray) (hl : l.length ≤ 9223372036854775807) (hx : ∀ s ∈ l, s.size ≤ 9223372036854775807) : ∀ (n : Nat) (left : Int) (i : Nat), i + n = l.length → 0 ≤ left → left ≤ 1048576 → ∃ r, Ev (fun k => laws_szStringS.l0 k l left (i : Int)) r ∧ r ≤ left ∧ -1 ≤ r ∧ (0 ≤ r → ∀ s ∈ l.drop i, s.size ≤ 1048576) := by
  intro n
  induction n with
  | zero => intro left i hi h0 h1; exact ⟨left, evIs1 (fun k => by simp only [laws_szStringS.l0]; rw [if_neg (by omega)]), by omega, by omega, fun _ => by rw [List.drop_eq_nil_iff.2 (by omega)]; intro s hs; cases hs⟩
  | succ n ih =>
    intro left i hi h0 h1
    have hil : i < l.length := by omega
    have hb := hx _ (List.getElem_mem hil)
    by_cases c : left - ((l[i]).size : Int) < 0
    · refine ⟨-1, evIs1 (fun k => ?_), by omega, by omega, by omega⟩
      simp only [laws_szStringS.l0]
      rw [if_pos (by omega), if_pos (by omega), rdS l i hil, if_pos (by rw [w64 (by omega) (by omega)]; exact c)]
    · obtain ⟨z, hz, z1, z2, z3⟩ := ih (left - ((l[i]).size : Int)) (i + 1) (by omega) (by omega) (by omega)
      refine ⟨z, Ev.step (f := fun k => laws_szStringS.l0 k l (left - ((l[i]).size : Int)) ((i + 1 : Nat) : Int)) (fun k => ?_) hz, by omega, z2, fun hz0 => ?_⟩
      · simp only [laws_szStringS.l0]
        rw [if_pos (by omega), if_pos (by omega), rdS l i hil, w64 (n := left - ((l[i]).size : Int)) (by omega) (by omega), if_neg c, w64 (by omega) (by omega)]
        rfl
      · rw [List.drop_eq_getElem_cons hil]
        intro s hs
        rcases List.mem_cons.1 hs with rfl | hs
        · omega
        · exact z3 hz0 s hs
theorem szStringS_ev (l : List ByteArray) (hl : l.length ≤ 9223372036854775807) (hx : ∀ s ∈ l, s.size ≤ 9223372036854775807) (left : Int) (h0 : left ≤ 1048576) (h1 : 0 ≤ left) : ∃ r, Ev (fun k => laws_szStringS.f k l left) r ∧ r ≤ left ∧ -1 ≤ r ∧ (0 ≤ r → l.length ≤ 1048576 ∧ ∀ s ∈ l, s.size ≤ 1048576) := by
  have e : wrap64 (left - (l.length : Int)) = left - (l.length : Int) := w64 (by omega) (by omega)
  by_cases c : left - (l.length : Int) < 0
  · exact ⟨-1, evIs fun k => by unfold laws_szStringS.f; rw [e, if_pos c], by omega, by omega, by omega⟩
  · obtain ⟨r, hr, r1, r2, r3⟩ := szStringS_l l hl hx l.length (left - (l.length : Int)) 0 (by omega) (by omega) (by omega)
    exact ⟨r, Ev.congr (fun k => by unfold laws_szStringS.f; rw [e, if_neg c]; rfl) hr, by omega, r2, fun h => ⟨by omega, fun s hs => r3 h s (by simpa using hs)⟩⟩
theorem toStrs_l (l : List ByteArray) (hl : l.length ≤ 1048576) : ∀ (n i : Nat), i + n = l.length → Ev (fun k => laws_toStringS.l0 k l (l.take i ++ List.replicate n (⟨#[]⟩ : ByteArray)) (i : Int)) l := by
  intro n
  induction n with
  | zero =>
    intro i hi
    refine evIs1 (fun k => ?_)
    simp only [laws_toStringS.l0]
    rw [if_neg (by omega), List.take_of_length_le (by omega)]
    simp
  | succ n ih =>
    intro i hi
    have h := ih (i + 1) (by omega)
    refine Ev.step (f := fun k => laws_toStringS.l0 k l (l.take (i + 1) ++ List.replicate n (⟨#[]⟩ : ByteArray)) ((i + 1 : Nat) : Int)) (fun k => ?_) h
    simp only [laws_toStringS.l0]
    have hlen : (l.take i ++ List.replicate (n + 1) (⟨#[]⟩ : ByteArray)).length = l.length := by simp; omega
    have hi' : i < l.length := by omega
    rw [if_pos (by omega), if_pos (by omega), if_pos (by rw [hlen]; omega), w64 (by omega) (by omega), rdS l i hi']
    congr 1
    have hm : (l.take i).length = i := by simp; omega
    rw [Int.toNat_natCast, List.set_append_right _ _ (by omega), hm, Nat.sub_self, List.replicate_succ, List.set_cons_zero, List.take_add_one, List.append_assoc]
    congr 1
    simp [hi']
theorem toStrs_ev (l : List ByteArray) (hl : l.length ≤ 1048576) : Ev (fun k => laws_toStringS.f k l) l := by
  have h := toStrs_l l hl l.length 0 (by omega)
  refine Ev.congr (fun k => ?_) h
  unfold laws_toStringS.f
  rw [if_pos (by omega), if_pos (by omega)]
  simp
theorem eqStrs_l (l : List ByteArray) (hl : l.length ≤ 9223372036854775807) : ∀ (n i : Nat), i + n = l.length → Ev (fun k => laws_eqStringS.l0 k l l (i : Int)) true := by
  intro n
  induction n with
  | zero =>
    intro i hi
    exact evIs1 (fun k => by simp only [laws_eqStringS.l0]; rw [if_neg (by omega)])
  | succ n ih =>
    intro i hi
    refine Ev.step (f := fun k => laws_eqStringS.l0 k l l ((i + 1 : Nat) : Int)) (fun k => ?_) (ih (i + 1) (by omega))
    simp only [laws_eqStringS.l0]
    rw [if_pos (by omega), if_pos (by omega), if_pos (by omega), if_pos trivial, w64 (by omega) (by omega)]
    rfl
theorem eqStrs_refl (l : List ByteArray) (hl : l.length ≤ 9223372036854775807) : Ev (fun k => laws_eqStringS.f k l l) true :=
  Ev.congr (fun k => by unfold laws_eqStringS.f; rw [if_pos rfl]; rfl) (eqStrs_l l hl l.length 0 (by omega))
theorem eqInts_l (l : List Int) (hl : l.length ≤ 9223372036854775807) : ∀ (n i : Nat), i + n = l.length → Ev (fun k => laws_eqInt64S.l0 k l l (i : Int)) true := by
  intro n
  induction n with
  | zero =>
    intro i hi
    exact Ev.step (f := fun _ => some true) (fun k => by simp only [laws_eqInt64S.l0]; rw [if_neg (by omega)]) (Ev.now _)
  | succ n ih =>
    intro i hi
    refine Ev.step (f := fun k => laws_eqInt64S.l0 k l l ((i + 1 : Nat) : Int)) (fun k => ?_) (ih (i + 1) (by omega))
    simp only [laws_eqInt64S.l0]
    rw [if_pos (by omega), if_pos (by omega), if_pos (by omega), if_pos trivial, w64 (by omega) (by omega)]
    rfl
theorem eqInts_refl (l : List Int) (hl : l.length ≤ 9223372036854775807) : Ev (fun k => laws_eqInt64S.f k l l) true :=
  Ev.congr (fun k => by unfold laws_eqInt64S.f; rw [if_pos rfl]; rfl) (eqInts_l l hl l.length 0 (by omega))
theorem eqObj_refl (a : Int) (l : List Int) (hl : l.length ≤ 9223372036854775807) : Ev (fun k => laws_eqObj.f k a l a l) true :=
  evThen (eqInts_refl l hl) (fun k => by unfold laws_eqObj.f; rw [if_pos rfl]) (evIs fun k => by rw [if_pos rfl])
theorem markText_l : ∀ (n : Nat) (x : Int) (t : ByteArray), x < 10 ^ n → x ≤ 1000000000 → t.size + n ≤ 1000 → ∃ r, Ev (fun k => laws_markText.l0 k x t) r := by
  intro n
  induction n with
  | zero =>
    intro x t h _ ht
    exact ⟨_, Ev.step (f := fun _ => some _) (fun k => by simp only [laws_markText.l0]; rw [if_neg (by simp at h; omega), if_pos (by omega)]) (Ev.now _)⟩
  | succ n ih =>
    intro x t h hx ht
    by_cases c : x > 0
    · have hs : ∀ z : Int, (strOfNums [z]).size = 1 := fun z => by rw [strOfNums_size]; rfl
      have hd : Int.tdiv x 10 = x / 10 := Int.tdiv_eq_ediv_of_nonneg (by omega)
      obtain ⟨r, hr⟩ := ih (x / 10) (strOfNums [(wrap64 (48 + (Int.tmod x 10))) % 256] ++ t) (by rw [Int.pow_succ] at h; omega) (by omega) (by rw [ByteArray.size_append, hs]; omega)
      refine ⟨r, Ev.step (f := fun k => laws_markText.l0 k (x / 10) (strOfNums [(wrap64 (48 + (Int.tmod x 10))) % 256] ++ t)) (fun k => ?_) hr⟩
      simp only [laws_markText.l0]
      rw [if_pos c, Option.bind_some, if_pos (by rw [hs]; omega), hd, w64 (by omega) (by omega)]
    · exact ⟨_, Ev.step (f := fun _ => some _) (fun k => by simp only [laws_markText.l0]; rw [if_neg c, if_pos (by omega)]) (Ev.now _)⟩
theorem markText_ev (a : Int) (h : a ≤ 1000000000) : ∃ r, Ev (fun k => laws_markText.f k a) r := by
  by_cases c : a ≤ 0
  · exact ⟨_, evIs fun k => by unfold laws_markText.f; rw [if_pos c]⟩
  · obtain ⟨r, hr⟩ := markText_l 10 a (⟨#[]⟩ : ByteArray) (by omega) h (by decide)
    exact ⟨r, Ev.congr (fun k => by unfold laws_markText.f; rw [if_neg c]) hr⟩
theorem markStrs_l : ∀ (n : Nat) (l : List ByteArray) (i : Nat) (a : Int), l.length ≤ 1048576 → i + n = l.length → 0 ≤ a → a + n ≤ 100000000 → ∃ r, Ev (fun k => laws_markStringS.l0 k l a (i : Int)) r ∧ 0 ≤ r.1 := by
  intro n
  induction n with
  | zero =>
    intro l i a hl hi h0 h1
    exact ⟨(a, l), evIs1 (fun k => by simp only [laws_markStringS.l0]; rw [if_neg (by omega)]), h0⟩
  | succ n ih =>
    intro l i a hl hi h0 h1
    obtain ⟨t, ht⟩ := markText_ev a (by omega)
    obtain ⟨r, hr, hr0⟩ := ih (l.set i t) (i + 1) (a + 1) (by rw [List.length_set]; exact hl) (by rw [List.length_set]; omega) (by omega) (by omega)
    refine ⟨r, Ev.step (f := fun k => (laws_markText.f k a).bind fun t => laws_markStringS.l0 k (l.set i t) (a + 1) ((i + 1 : Nat) : Int)) (fun k => ?_) (evThen ht (fun k => rfl) hr), hr0⟩
    simp only [laws_markStringS.l0]
    rw [if_pos (by omega), w64 (n := a + 1) (by omega) (by omega), w64 (n := (i : Int) + 1) (by omega) (by omega)]
    simp only [if_pos (show (0 : Int) ≤ (i : Int) by omega), Int.toNat_natCast]
    rfl
theorem markStrs_ev (l : List ByteArray) (hl : l.length ≤ 1048576) : ∃ r, Ev (fun k => laws_markStringS.f k l 1) r ∧ 0 ≤ r.1 := markStrs_l l.length l 0 1 hl (by omega) (by omega) (by omega)
/-- a, a + 1, .. n of them. -/
def cnt (a : Int) : Nat → List Int
  | 0 => []
  | n + 1 => a :: cnt (a + 1) n
theorem cnt_len : ∀ (n : Nat) (a : Int), (cnt a n).length = n
  | 0, _ => rfl
  | n + 1, a => by simp [cnt, cnt_len n]
theorem cnt_succ : ∀ (n : Nat) (a : Int), cnt a (n + 1) = cnt a n ++ [a + n]
  | 0, a => by simp [cnt]
  | n + 1, a => by
    show a :: cnt (a + 1) (n + 1) = _
    rw [cnt_succ n (a + 1)]
    simp [cnt]
    omega
theorem markInts_l (l : List Int) (hl : l.length ≤ 1048576) : ∀ (n i : Nat), i + n = l.length → Ev (fun k => laws_markInt64S.l0 k (cnt 1 i ++ l.drop i) (1 + (i : Int)) (i : Int)) (1 + (l.length : Int), cnt 1 l.length) := by
  intro n
  induction n with
  | zero =>
    intro i hi
    obtain rfl : i = l.length := by omega
    refine Ev.step (f := fun _ => some _) (fun k => ?_) (Ev.now _)
    simp only [laws_markInt64S.l0]
    rw [if_neg (by simp [cnt_len])]
    simp
  | succ n ih =>
    intro i hi
    have h := ih (i + 1) (by omega)
    refine Ev.step (f := fun k => laws_markInt64S.l0 k (cnt 1 (i + 1) ++ l.drop (i + 1)) (1 + ((i + 1 : Nat) : Int)) ((i + 1 : Nat) : Int)) (fun k => ?_) h
    simp only [laws_markInt64S.l0]
    rw [if_pos (by simp [cnt_len]; omega), if_pos (by omega), w64 (by omega) (by omega), w64 (by omega) (by omega), Int.toNat_natCast, List.set_append_right _ _ (by rw [cnt_len]; omega), cnt_len, Nat.sub_self, List.drop_eq_getElem_cons (by omega), List.set_cons_zero, cnt_succ, List.append_assoc]
    simp only [List.singleton_append]
    congr 1
theorem markInts_ev (l : List Int) (hl : l.length ≤ 1048576) : Ev (fun k => laws_markInt64S.f k l 1) (1 + (l.length : Int), cnt 1 l.length) := by
  have h := markInts_l l hl l.length 0 (by omega)
  simpa [cnt, laws_markInt64S.f] using h
theorem markObj_ev (a : Int) (l : List Int) (hl : l.length ≤ 1048576) : Ev (fun k => laws_markObj.f k a l 1) (1 + (l.length : Int), cnt 1 l.length) :=
  evThen (markInts_ev l hl) (fun k => rfl) (evIs fun k => rfl)
theorem cnt_get : ∀ (n : Nat) (a : Int) (i : Nat), i < n → (cnt a n)[i]? = some (a + i)
  | 0, _, _, h => absurd h (by omega)
  | n + 1, a, 0, _ => by simp [cnt]
  | n + 1, a, i + 1, h => by simp only [cnt, List.getElem?_cons_succ]; rw [cnt_get n (a + 1) i (by omega)]; congr 1; omega
theorem heldInts_l (m : Nat) (hm : m ≤ 1048576) : ∀ (n i : Nat), i + n = m → Ev (fun k => laws_heldInt64S.l0 k (cnt 1 m) (1 + (i : Int)) (i : Int)) (1 + (m : Int)) := by
  intro n
  induction n with
  | zero =>
    intro i hi
    obtain rfl : i = m := by omega
    refine Ev.step (f := fun _ => some _) (fun k => ?_) (Ev.now _)
    simp only [laws_heldInt64S.l0]
    rw [if_neg (by simp [cnt_len])]
  | succ n ih =>
    intro i hi
    have h := ih (i + 1) (by omega)
    refine Ev.step (f := fun k => laws_heldInt64S.l0 k (cnt 1 m) (1 + ((i + 1 : Nat) : Int)) ((i + 1 : Nat) : Int)) (fun k => ?_) h
    simp only [laws_heldInt64S.l0]
    rw [if_pos (by simp [cnt_len]; omega), if_pos (by omega), if_pos (by simp [rd, List.getD, cnt_get m 1 i (by omega)]), w64 (by omega) (by omega), w64 (by omega) (by omega)]
    congr 1
theorem heldInts_ev (m : Nat) (hm : m ≤ 1048576) : Ev (fun k => laws_heldInt64S.f k (cnt 1 m) 1) (1 + (m : Int)) := by
  have h := heldInts_l m hm m 0 (by omega)
  simpa [laws_heldInt64S.f] using h
theorem heldObj_ev (a : Int) (m : Nat) (hm : m ≤ 1048576) : Ev (fun k => laws_heldObj.f k a (cnt 1 m) 1) (1 + (m : Int)) :=
  evThen (heldInts_ev m hm) (fun k => rfl) (evIs fun k => by rw [if_neg (by omega)])
theorem sIn (a b c : Int) : spec_l1In.f a b c = some (decide (b ≤ a ∧ a ≤ c)) := by
  unfold spec_l1In.f
  by_cases h : a ≥ b
  · rw [if_pos h]; congr 1; rw [decide_eq_decide]; omega
  · rw [if_neg h]; congr 1; symm; rw [decide_eq_false_iff_not]; omega
theorem ok_at (s : ByteArray) (i : Nat) (h : i < s.size) (h' : i < s.data.toList.length) : impl_isType.ok (s.data.toList[i]) = (decide (bt s (i : Int) = 105) || decide (bt s (i : Int) = 114)) := by
  have e : bt s (i : Int) = ((s.data.toList[i]).toNat : Int) := by
    rw [← bt_at s (i : Int) (by rw [Int.toNat_natCast]; exact h)]
    simp only [Int.toNat_natCast, Array.getElem_toList]; rfl
  rw [e]
  generalize s.data.toList[i] = b
  unfold impl_isType.ok
  have g : ∀ n : UInt8, (b == n) = decide ((b.toNat : Int) = (n.toNat : Int)) := by
    intro n
    by_cases hb : b = n
    · subst hb; simp
    · have : ¬ ((b.toNat : Int) = (n.toNat : Int)) := fun q => hb (UInt8.toNat_inj.1 (by omega))
      simp [hb, this]
  rw [g 105, g 114]; rfl
theorem isType_ok (s : ByteArray) (h : impl_isType.g s = true) : 1 ≤ s.size ∧ s.size ≤ 23 ∧ ∀ i : Nat, i < s.size → (bt s (i : Int) = 105 ∨ bt s (i : Int) = 114) := by
  unfold impl_isType.g at h
  rw [Bool.and_eq_true, decide_eq_true_eq, List.all_eq_true] at h
  refine ⟨by omega, by omega, fun i hi => ?_⟩
  have hl : i < s.data.toList.length := by rw [Array.length_toList]; exact hi
  have := h.2 _ (List.getElem_mem hl)
  rw [ok_at s i hi hl] at this
  simpa using this
theorem sTyp_l (s : ByteArray) (hs : s.size ≤ 9223372036854775807) : ∀ (n i : Nat), i + n = s.size → Ev (fun k => spec_l3Type.l0 k s (i : Int)) (decide (1 ≤ (s.size : Int) ∧ (s.size : Int) ≤ 23) && (s.data.toList.drop i).all impl_isType.ok) := by
  intro n
  have hl : s.data.toList.length = s.size := Array.length_toList
  induction n with
  | zero =>
    intro i hi
    refine evIs1 fun k => ?_
    simp only [spec_l3Type.l0]
    rw [if_neg (by omega), sIn, Option.bind_some, List.drop_eq_nil_iff.2 (by omega), List.all_nil, Bool.and_true]
  | succ n ih =>
    intro i hi
    have ih := ih (i + 1) (by omega)
    have hil : i < s.data.toList.length := by omega
    have e := ok_at s i (by omega) hil
    rw [List.drop_eq_getElem_cons hil, List.all_cons, e]
    by_cases c1 : bt s (i : Int) = 105
    · rw [decide_eq_true c1, Bool.true_or, Bool.true_and]
      refine Ev.step (f := fun k => spec_l3Type.l0 k s ((i + 1 : Nat) : Int)) (fun k => ?_) ih
      simp only [spec_l3Type.l0]
      rw [if_pos (by omega), if_pos (by omega), if_pos c1, w64 (by omega) (by omega)]; rfl
    · by_cases c2 : bt s (i : Int) = 114
      · rw [decide_eq_true c2, Bool.or_true, Bool.true_and]
        refine Ev.step (f := fun k => spec_l3Type.l0 k s ((i + 1 : Nat) : Int)) (fun k => ?_) ih
        simp only [spec_l3Type.l0]
        rw [if_pos (by omega), if_pos (by omega), if_neg c1, if_pos c2, w64 (by omega) (by omega)]; rfl
      · rw [decide_eq_false c1, decide_eq_false c2, Bool.or_false, Bool.false_and, Bool.and_false]
        refine evIs1 fun k => ?_
        simp only [spec_l3Type.l0]
        rw [if_pos (by omega), if_pos (by omega), if_neg c1, if_neg c2]
theorem sTyp (s : ByteArray) (hs : s.size ≤ 9223372036854775807) : Ev (fun k => spec_l3Type.f k s) (impl_isType.g s) :=
  Ev.congr (fun k => rfl) (sTyp_l s hs s.size 0 (by omega))
theorem run_w (n : Nat) (hs : n ≤ 140737488351232) : wrap64 (Int.tdiv ((n : Int) + 8) 8) = Int.tdiv ((n : Int) + 8) 8 := by
  rw [Int.tdiv_eq_ediv_of_nonneg (by omega)]; exact w64 (by omega) (by omega)
def runP (s : ByteArray) : Int := if impl_isType.g s = true then Int.tdiv ((s.size : Int) + 8) 8 else 0
theorem sRun (s : ByteArray) (hs : s.size ≤ 140737488351232) : Ev (fun k => spec_RunOf.f k s) (runP s) := by
  refine evThen (sTyp s (by omega)) (fun k => rfl) (evIs fun k => ?_)
  unfold runP
  by_cases c : impl_isType.g s = true
  · rw [if_pos c, if_pos c, w64 (n := 1 + (s.size : Int)) (by omega) (by omega), w64 (n := 1 + (s.size : Int) + 7) (by omega) (by omega), show (1 : Int) + (s.size : Int) + 7 = (s.size : Int) + 8 by omega, run_w _ hs]
  · rw [if_neg c, if_neg c]
theorem sTys_l (l : List ByteArray) (hl : l.length ≤ 9223372036854775807) (hx : ∀ s ∈ l, s.size ≤ 9223372036854775807) : ∀ (n i : Nat), i + n = l.length → Ev (fun k => spec_TypesOk.l0 k l (i : Int)) ((l.drop i).all impl_isType.g) := by
  intro n
  induction n with
  | zero =>
    intro i hi
    exact evIs1 (fun k => by simp only [spec_TypesOk.l0]; rw [if_neg (by omega), List.drop_eq_nil_iff.2 (by omega)]; rfl)
  | succ n ih =>
    intro i hi
    have hil : i < l.length := by omega
    have ih := ih (i + 1) (by omega)
    have ht := sTyp l[i] (hx _ (List.getElem_mem hil))
    rw [List.drop_eq_getElem_cons hil, List.all_cons]
    refine Ev.step (f := fun k => (spec_l3Type.f k l[i]).bind fun t => if t = true then spec_TypesOk.l0 k l ((i + 1 : Nat) : Int) else some false) (fun k => ?_) ?_
    · simp only [spec_TypesOk.l0]
      rw [if_pos (by omega), if_pos (by omega), rdS l i hil, w64 (by omega) (by omega)]; rfl
    · refine evThen ht (fun k => rfl) ?_
      by_cases c : impl_isType.g l[i] = true
      · rw [c, Bool.true_and]; simp only [if_true]; exact ih
      · rw [Bool.eq_false_iff.2 c, Bool.false_and]; exact evIs fun k => rfl
theorem sTys (l : List ByteArray) (hl : l.length ≤ 9223372036854775807) (hx : ∀ s ∈ l, s.size ≤ 9223372036854775807) : Ev (fun k => spec_TypesOk.f k l) (impl_TypesOk.g l) := by
  have e : ∀ k, spec_TypesOk.f k l = if (decide (1 ≤ (l.length : Int) ∧ (l.length : Int) ≤ 12)) = true then spec_TypesOk.l0 k l 0 else some false := fun k => by
    unfold spec_TypesOk.f; rw [sIn, Option.bind_some]
  unfold impl_TypesOk.g
  by_cases c : 1 ≤ (l.length : Int) ∧ (l.length : Int) ≤ 12
  · rw [decide_eq_true c, Bool.true_and]
    refine Ev.congr (fun k => ?_) (sTys_l l hl hx l.length 0 (by omega))
    rw [e k, decide_eq_true c, if_pos rfl]; rfl
  · rw [decide_eq_false c, Bool.false_and]
    exact evIs fun k => by rw [e k, decide_eq_false c]; rfl
def rkP (n : Int) : Int := if n = 0 then 0 else if 2 ≤ n ∧ n ≤ 254 ∧ Int.tmod n 2 = 0 then 1 else if 1 ≤ n ∧ n ≤ 799 ∧ Int.tmod n 2 = 1 then 2 else -1
theorem rk1 (k : Nat) (n : Int) : spec_RefKind.f (k + 9) n = some (rkP n) := by
  unfold spec_RefKind.f spec_l1In.f rkP
  by_cases h0 : n = 0
  · simp [h0]
  · by_cases h1 : 2 ≤ n <;> by_cases h2 : n ≤ 254 <;> by_cases h3 : Int.tmod n 2 = 0 <;> by_cases h4 : 1 ≤ n <;> by_cases h5 : n ≤ 799 <;> by_cases h6 : Int.tmod n 2 = 1 <;> first | (exfalso; omega) | simp [spec_RefKind.j0, spec_l1In.f, h0, h1, h2, h3, h4, h5, h6]
theorem iTys (l : List ByteArray) : impl_TypesOk.f l = some (impl_TypesOk.g l) := rfl
theorem iObj (l : List ByteArray) (t : Int) (vs : List Int) : impl_ObjOk.f l t vs = some (impl_ObjOk.g l t vs) := rfl
theorem obj_of {l : List ByteArray} {t : Int} {vs : List Int} (h : impl_ObjOk.g l t vs = true) : impl_TypesOk.g l = true ∧ 0 ≤ t ∧ t < l.length ∧ (vs.length : Int) = ((rdOf ByteArray.empty l t).size : Int) ∧ ∀ i : Nat, i < vs.length → impl_ObjOk.one (rdOf ByteArray.empty l t) vs i = true := by
  unfold impl_ObjOk.g impl_ObjOk.is impl_ObjOk.vals at h
  rw [Bool.and_eq_true, Bool.and_eq_true, Bool.and_eq_true, decide_eq_true_eq, decide_eq_true_eq] at h
  exact ⟨h.1, h.2.1.1, by omega, h.2.2.1, impl_ObjOk.all_range.1 h.2.2.2⟩
theorem sRK_ev (n : Int) : Ev (fun k => spec_RefKind.f k n) (rkP n) := ⟨9, fun k hk => by obtain ⟨j, rfl⟩ := Nat.exists_eq_add_of_le hk; rw [Nat.add_comm]; exact rk1 j n⟩
theorem ref_rk (n : Int) : impl_ObjOk.ref n = !decide (rkP n < 0) := by
  unfold impl_ObjOk.ref rkP
  by_cases h0 : n = 0
  · simp [h0]
  · by_cases h1 : 2 ≤ n ∧ n ≤ 254 ∧ Int.tmod n 2 = 0
    · rw [if_neg h0, if_pos h1]; simp [h1]
    · by_cases h2 : 1 ≤ n ∧ n ≤ 799 ∧ Int.tmod n 2 = 1
      · rw [if_neg h0, if_neg h1, if_pos h2]; simp [h2]
      · rw [if_neg h0, if_neg h1, if_neg h2]; simp only [h0, h1, h2]; decide
theorem sObj_l (l : List ByteArray) (t : Int) (vs : List Int) (s : ByteArray) (h0 : 0 ≤ t) (h1 : t < (l.length : Int)) (hs : rdOf ByteArray.empty l t = s) (hv : (vs.length : Int) = (s.size : Int)) (hb : s.size ≤ 9223372036854775807) : ∀ (n i : Nat), i + n = vs.length → Ev (fun k => spec_ObjOk.l0 k l (i : Int) t vs) ((List.range' i n).all (impl_ObjOk.one s vs)) := by
  intro n
  induction n with
  | zero =>
    intro i hi
    exact evIs1 (fun k => by simp only [spec_ObjOk.l0]; rw [if_neg (by omega)]; rfl)
  | succ n ih =>
    intro i hi
    have ih := ih (i + 1) (by omega)
    rw [List.range'_succ, List.all_cons]
    have e : ∀ k, spec_ObjOk.l0 (k + 1) l (i : Int) t vs = if bt s (i : Int) = 114 then ((spec_RefKind.f k (rd vs (i : Int))).bind fun z => (if z < 0 then (some false) else spec_ObjOk.l0 k l ((i + 1 : Nat) : Int) t vs)) else spec_ObjOk.l0 k l ((i + 1 : Nat) : Int) t vs := by
      intro k
      simp only [spec_ObjOk.l0]
      rw [if_pos (by omega), if_pos h0, if_pos h1, hs, if_pos (by omega), if_pos (by omega), w64 (by omega) (by omega)]; rfl
    by_cases c : bt s (i : Int) = 114
    · refine Ev.step (f := fun k => (spec_RefKind.f k (rd vs (i : Int))).bind fun z => (if z < 0 then (some false) else spec_ObjOk.l0 k l ((i + 1 : Nat) : Int) t vs)) (fun k => by rw [e k, if_pos c]) ?_
      refine evThen (sRK_ev (rd vs (i : Int))) (fun k => rfl) ?_
      by_cases d : rkP (rd vs (i : Int)) < 0
      · have : impl_ObjOk.one s vs i = false := by unfold impl_ObjOk.one; rw [ref_rk, decide_eq_true c, decide_eq_true d]; rfl
        rw [this, Bool.false_and]; exact evIs fun k => by rw [if_pos d]
      · have : impl_ObjOk.one s vs i = true := by unfold impl_ObjOk.one; rw [ref_rk, decide_eq_false d, Bool.or_eq_true]; exact Or.inr rfl
        rw [this, Bool.true_and]; exact Ev.congr (fun k => by rw [if_neg d]) ih
    · have : impl_ObjOk.one s vs i = true := by unfold impl_ObjOk.one; rw [decide_eq_false c]; rfl
      rw [this, Bool.true_and]
      exact Ev.step (f := fun k => spec_ObjOk.l0 k l ((i + 1 : Nat) : Int) t vs) (fun k => by rw [e k, if_neg c]) ih
theorem sObj (l : List ByteArray) (t : Int) (vs : List Int) (hl : l.length ≤ 1048576) (hx : ∀ s ∈ l, s.size ≤ 9223372036854775807) : Ev (fun k => spec_ObjOk.f k l t vs) (impl_ObjOk.g l t vs) := by
  refine evThen (sTys l (by omega) hx) (fun k => rfl) ?_
  unfold impl_ObjOk.g
  by_cases c1 : impl_TypesOk.g l = true
  · rw [c1, Bool.true_and]; simp only [if_true]
    unfold impl_ObjOk.is
    refine Ev.congr (fun k => by rw [sIn, Option.bind_some, w64 (by omega) (by omega)]) ?_
    by_cases c2 : 0 ≤ t ∧ t ≤ (l.length : Int) - 1
    · rw [decide_eq_true c2, Bool.true_and]
      simp only [if_true, if_pos c2.1, if_pos (show t < (l.length : Int) by omega)]
      have hb : (rdOf ByteArray.empty l t).size ≤ 9223372036854775807 := by
        unfold rdOf; rw [List.getD_eq_getElem?_getD, List.getElem?_eq_getElem (by omega)]; exact hx _ (List.getElem_mem _)
      unfold impl_ObjOk.vals
      by_cases c3 : (vs.length : Int) = ((rdOf ByteArray.empty l t).size : Int)
      · rw [decide_eq_true c3, Bool.true_and, List.range_eq_range', bne_eq_false_iff_eq.mpr c3]
        refine Ev.step (f := fun k => spec_ObjOk.l0 k l 0 t vs) (fun k => by simp only [spec_ObjOk.j0]; rw [if_neg (by decide)]) ?_
        exact sObj_l l t vs _ c2.1 (by omega) rfl c3 hb vs.length 0 (by omega)
      · rw [decide_eq_false c3, Bool.false_and, bne_iff_ne.mpr c3]
        exact evIs1 fun k => by simp only [spec_ObjOk.j0]; rw [if_pos trivial]
    · rw [decide_eq_false c2, Bool.false_and]
      exact Ev.congr (fun k => by rw [if_neg (by decide)]) (evIs1 fun k => by simp only [spec_ObjOk.j0]; rw [if_pos trivial])
  · rw [Bool.eq_false_iff.2 c1, Bool.false_and]
    exact Ev.congr (fun k => by rw [if_neg (by decide)]) (evIs1 fun k => by simp only [spec_ObjOk.j0]; rw [if_pos trivial])
def wbx (x : Int) : List Int := [x / 72057594037927936 % 256, x / 281474976710656 % 256, x / 1099511627776 % 256, x / 4294967296 % 256, x / 16777216 % 256, x / 65536 % 256, x / 256 % 256, x % 256]
def wb (a : Int) : ByteArray := strOfNums (wbx (a % 18446744073709551616))
theorem wb_size (a : Int) : (wb a).size = 8 := by rw [wb, strOfNums_size]; rfl
theorem sWB (k : Nat) (a0 : Int) : spec_WordBytes.f (k + 9) a0 = some (wb a0) := by
  unfold spec_WordBytes.f
  simp (config := {maxSteps := 1000000}) [spec_WordBytes.l0, wrap64, u64, List.replicate, shr, IntKind.bits, wb, wbx]
theorem sWB_ev (a0 : Int) : Ev (fun k => spec_WordBytes.f k a0) (wb a0) := ⟨9, fun k hk => by
  obtain ⟨m, rfl⟩ : ∃ m, k = m + 9 := ⟨k - 9, by omega⟩
  exact sWB m a0⟩
/-- so many zero bytes -/
def zs (n : Nat) : ByteArray := strOfNums (List.replicate n 0)
theorem zs_size (n : Nat) : (zs n).size = n := by rw [zs, strOfNums_size]; simp
theorem sZeros (n : Nat) (h : n ≤ 281474976710656) : spec_l1Zeros.f (n : Int) = some (zs n) := by
  unfold spec_l1Zeros.f; rw [if_pos (by omega), if_pos (by omega)]; rfl
theorem tys_of {l : List ByteArray} (h : impl_TypesOk.g l = true) : 1 ≤ l.length ∧ l.length ≤ 12 ∧ ∀ s ∈ l, impl_isType.g s = true := by
  unfold impl_TypesOk.g at h; rw [Bool.and_eq_true, decide_eq_true_eq, List.all_eq_true] at h; exact ⟨by omega, by omega, h.2⟩
def catW : List Int → ByteArray → ByteArray
  | [], x => x
  | v :: r, x => catW r (x ++ wb v)
def restP (s : ByteArray) (z : Nat) : ByteArray := zs (64 * ((s.size + 8) / 8) - z)
def objP (l : List ByteArray) (t : Int) (vs : List Int) : ByteArray := if impl_ObjOk.g l t vs = true then catW vs (wb (wrap64 (t + 1))) ++ restP (rdOf ByteArray.empty l t) (8 + 8 * vs.length) else (⟨#[]⟩ : ByteArray)
theorem rd_at (l : List Int) (i : Nat) (h : i < l.length) : rd l (i : Int) = l[i] := by
  unfold rd; rw [Int.toNat_natCast, List.getD_eq_getElem?_getD, List.getElem?_eq_getElem h]; rfl
/-- what is known of an object that is so -/
theorem obj_facts {l : List ByteArray} {t : Int} {vs : List Int} (h : impl_ObjOk.g l t vs = true) : 0 ≤ t ∧ t < l.length ∧ l.length ≤ 12 ∧ (rdOf ByteArray.empty l t).size ≤ 23 ∧ vs.length = (rdOf ByteArray.empty l t).size ∧ impl_isType.g (rdOf ByteArray.empty l t) = true := by
  obtain ⟨h1, h2, h3, h4, _⟩ := obj_of h
  obtain ⟨_, h6, h7⟩ := tys_of h1
  have hm : rdOf ByteArray.empty l t ∈ l := by
    unfold rdOf; rw [List.getD_eq_getElem?_getD, List.getElem?_eq_getElem (by omega)]; exact List.getElem_mem _
  have h8 := h7 _ hm
  have h9 := isType_ok _ h8
  exact ⟨h2, h3, h6, h9.2.1, by omega, h8⟩
theorem run_of {s : ByteArray} (h : impl_isType.g s = true) : runP s = (s.size : Int) / 8 + 1 := by
  have h9 := isType_ok s h
  unfold runP; rw [if_pos h, Int.tdiv_eq_ediv_of_nonneg (by omega)]; omega
theorem zs_arg (s : ByteArray) (hs : s.size ≤ 23) (z : Nat) (hz : z = 8 + 8 * s.size) : wrap64 (wrap64 (64 * ((s.size : Int) / 8 + 1)) - (z : Int)) = ((64 * ((s.size + 8) / 8) - z : Nat) : Int) := by
  rw [w64 (n := 64 * ((s.size : Int) / 8 + 1)) (by omega) (by omega), w64 (by omega) (by omega)]; omega
theorem sOB_l (l : List ByteArray) (t : Int) (vs : List Int) (s : ByteArray) (h0 : 0 ≤ t) (h1 : t < (l.length : Int)) (hs : rdOf ByteArray.empty l t = s) (hb : s.size ≤ 23) (hv : vs.length = s.size) (hg : impl_isType.g s = true) : ∀ (n i : Nat) (x : ByteArray), i + n = vs.length → x.size = 8 + 8 * i → Ev (fun k => spec_ObjectBytes.l0 k l x (i : Int) t vs) (catW (vs.drop i) x ++ restP s (8 + 8 * vs.length)) := by
  intro n
  induction n with
  | zero =>
    intro i x hi hx
    rw [List.drop_eq_nil_iff.2 (by omega)]
    refine Ev.step (f := fun k => (spec_RunOf.f k s).bind fun z => ((spec_l1Zeros.f (wrap64 ((wrap64 (64 * z)) - (x.size : Int)))).bind fun y => (if x.size + y.size ≤ 9223372036854775807 then (some (x ++ y)) else (none)))) (fun k => by simp only [spec_ObjectBytes.l0]; rw [if_neg (by omega), if_pos h0, if_pos h1, hs]) ?_
    refine evThen (sRun s (by omega)) (fun k => rfl) (evIs fun k => ?_)
    rw [run_of hg, zs_arg s hb x.size (by omega), sZeros _ (by omega), Option.bind_some, if_pos (by rw [zs_size]; omega)]
    unfold restP catW
    rw [show x.size = 8 + 8 * vs.length by omega]
  | succ n ih =>
    intro i x hi hx
    have hil : i < vs.length := by omega
    rw [List.drop_eq_getElem_cons hil, catW]
    have ih := ih (i + 1) (x ++ wb vs[i]) (by omega) (by rw [ByteArray.size_append, wb_size]; omega)
    refine Ev.step (f := fun k => (spec_WordBytes.f k vs[i]).bind fun z => (if x.size + z.size ≤ 9223372036854775807 then (spec_ObjectBytes.l0 k l (x ++ z) ((i + 1 : Nat) : Int) t vs) else none)) (fun k => by simp only [spec_ObjectBytes.l0]; rw [if_pos (by omega), if_pos (by omega), rd_at vs i hil, w64 (by omega) (by omega)]; rfl) ?_
    refine evThen (sWB_ev vs[i]) (fun k => rfl) (Ev.congr (fun k => by rw [if_pos (by rw [wb_size]; omega)]) ih)
theorem sOB (l : List ByteArray) (t : Int) (vs : List Int) (hl : l.length ≤ 1048576) (hx : ∀ s ∈ l, s.size ≤ 9223372036854775807) : Ev (fun k => spec_ObjectBytes.f k l t vs) (objP l t vs) := by
  refine evThen (sObj l t vs hl hx) (fun k => rfl) ?_
  unfold objP
  by_cases c : impl_ObjOk.g l t vs = true
  · obtain ⟨h1, h2, h3, h4, h5, h6⟩ := obj_facts c
    simp only [if_pos c]
    exact evThen (sWB_ev _) (fun k => rfl) (sOB_l l t vs _ h1 h2 rfl h4 h5 h6 vs.length 0 _ (by omega) (by rw [wb_size]))
  · simp only [if_neg c]; exact evIs fun k => rfl
theorem orNat (X b : Nat) (hb : b < 256) : (X * 256) ||| b = X * 256 + b := by
  have h := Nat.two_pow_add_eq_or_of_lt (i := 8) (b := b) (by omega) X
  rw [show 2 ^ 8 * X = X * 256 by omega] at h
  exact h.symm
theorem ofInt_toNat64 (z : Int) : (BitVec.ofInt 64 z).toNat = (z % 18446744073709551616).toNat := by
  rw [BitVec.toNat_ofInt]; rfl
theorem bitsOr (k : IntKind) (hk : k.bits = 64) (z w b : Int) (hz : z % 18446744073709551616 = (w * 256) % 18446744073709551616) (hb : 0 ≤ b) (hb1 : b ≤ 255) :
    Go.bits .or k z b = k.wrap ((w * 256) % 18446744073709551616 + b) := by
  unfold Go.bits
  rw [hk]
  simp only [BitVec.toNat_or, ofInt_toNat64, hz]
  have e : ((w * 256) % 18446744073709551616).toNat = (w % 72057594037927936).toNat * 256 := by omega
  have e2 : (b % 18446744073709551616).toNat = b.toNat := by omega
  rw [e, e2, orNat _ _ (by omega)]
  congr 1; omega
theorem orW (x b : Int) (hb : 0 ≤ b) (hb1 : b ≤ 255) : Go.bits .or .i64 (wrap64 (x * 256)) b = wrap64 (x * 256 + b) := by
  rw [bitsOr .i64 rfl _ x b (by unfold wrap64; omega) hb hb1, IntKind.wrap_i64]; unfold wrap64; omega
theorem orU (x b : Int) (hb : 0 ≤ b) (hb1 : b ≤ 255) : Go.bits .or .u64 ((x * 256) % 18446744073709551616) b = (x * 256 + b) % 18446744073709551616 := by
  rw [bitsOr .u64 rfl _ x b (by omega) hb hb1, u64]; omega
/-- the number that n bytes tell, the highest one first -/
def hn (s : ByteArray) (i : Int) : Nat → Int
  | 0 => 0
  | n + 1 => hn s i n * 256 + bt s (i + n)
def wordP (s : ByteArray) (i : Int) : Int := wrap64 (hn s i 8)
theorem sWl (s : ByteArray) (hs : (s.size : Int) = 8) (d : Nat) : ∀ (k j : Nat), j + d = 8 → d < k → spec_ReadWord.l0 k s (hn s 0 j % 18446744073709551616) j = some (wordP s 0, true) := by
  induction d with
  | zero =>
    intro k j hj hk
    obtain ⟨k, rfl⟩ : ∃ m, k = m + 1 := ⟨k - 1, by omega⟩
    obtain rfl : j = 8 := by omega
    simp only [spec_ReadWord.l0]; rw [if_neg (by omega)]
    unfold wordP; congr 2; unfold wrap64; omega
  | succ d ih =>
    intro k j hj hk
    obtain ⟨k, rfl⟩ : ∃ m, k = m + 1 := ⟨k - 1, by omega⟩
    have hb := bt_range s j
    simp only [spec_ReadWord.l0]; rw [if_pos (by omega), if_pos (by omega), if_pos (by omega), w64 (n := (j : Int) + 1) (by omega) (by omega)]
    have e : Go.bits .or .u64 (IntKind.u64.wrap (hn s 0 j % 18446744073709551616 * 256)) (IntKind.u64.wrap (bt s j)) = hn s 0 (j + 1) % 18446744073709551616 := by
      rw [u64, u64, show bt s j % 18446744073709551616 = bt s j by omega, orU _ _ hb.1 hb.2]
      simp only [hn, Int.zero_add]; omega
    rw [e]; exact ih k (j + 1) (by omega) (by omega)
theorem sRW8 (k : Nat) (s : ByteArray) (h : s.size = 8) : spec_ReadWord.f (k + 9) s = some (wordP s 0, true) := by
  have e1 := sWl s (by omega) 8 (k + 9) 0 (by omega) (by omega)
  simp only [hn, Int.zero_emod, show ((0 : Nat) : Int) = 0 from rfl] at e1
  unfold spec_ReadWord.f
  rw [if_pos (by omega), e1]
theorem sRW8_ev (s : ByteArray) (h : s.size = 8) : Ev (fun k => spec_ReadWord.f k s) (wordP s 0, true) := ⟨9, fun k hk => by
  obtain ⟨m, rfl⟩ : ∃ m, k = m + 9 := ⟨k - 9, by omega⟩
  exact sRW8 m s h⟩
theorem toList_inj {s t : ByteArray} : s.toList = t.toList ↔ s = t := by
  rw [ByteArray.toList_eq, ByteArray.toList_eq]
  exact ⟨fun h => ByteArray.ext (Array.toList_inj.mp h), fun h => by rw [h]⟩
theorem bt_extract (s : ByteArray) (a b : Nat) (i : Int) (h0 : 0 ≤ i) (hi : a + i < b) (hb : b ≤ s.size) : bt (s.extract a b) i = bt s (a + i) := by
  have h1 : i.toNat < (s.extract a b).size := by rw [ByteArray.size_extract]; omega
  have h2 : ((a : Int) + i).toNat < s.size := by omega
  rw [← bt_at _ i h1, ← bt_at s (a + i) h2]
  have e : ((a : Int) + i).toNat = a + i.toNat := by omega
  simp only [ByteArray.getElem_eq_getElem_data, ByteArray.data_extract, Array.getElem_extract, e]
theorem hn_congr (s t : ByteArray) (i j : Int) : ∀ n : Nat, (∀ m : Nat, m < n → bt s (i + m) = bt t (j + m)) → hn s i n = hn t j n
  | 0, _ => rfl
  | n + 1, h => by rw [hn, hn, hn_congr s t i j n (fun m hm => h m (by omega)), h n (by omega)]
theorem wordP_congr (s t : ByteArray) (i j : Int) (h : ∀ m : Nat, m < 8 → bt s (i + m) = bt t (j + m)) : wordP s i = wordP t j := by
  unfold wordP; rw [hn_congr s t i j 8 h]
theorem wordP_extract (s : ByteArray) (a b : Nat) (i : Int) (h0 : 0 ≤ i) (hi : a + i + 8 ≤ b) (hb : b ≤ s.size) : wordP (s.extract a b) i = wordP s (a + i) :=
  wordP_congr _ _ _ _ (fun m hm => by rw [bt_extract s a b _ (by omega) (by omega) hb]; congr 1; omega)
def valsP (s : ByteArray) : Nat → Nat → List Int → List Int
  | 0, _, vs => vs
  | n + 1, i, vs => valsP s n (i + 1) (vs ++ [wordP s (8 + 8 * (i : Int))])
theorem valsP_len (s : ByteArray) : ∀ (n i : Nat) (vs : List Int), (valsP s n i vs).length = vs.length + n
  | 0, _, _ => rfl
  | n + 1, i, vs => by rw [valsP, valsP_len s n, List.length_append, List.length_singleton]; omega
def finP (l : List ByteArray) (s : ByteArray) (t : Int) (vs : List Int) : Int × List Int × Bool := if objP l t vs = s then (t, vs, true) else (0, [], false)
def roP (l : List ByteArray) (s : ByteArray) : Int × List Int × Bool :=
  if impl_TypesOk.g l = true ∧ 64 ≤ s.size ∧ (1 ≤ wordP s 0 ∧ wordP s 0 ≤ (l.length : Int)) ∧ (s.size : Int) = 64 * (((rdOf ByteArray.empty l (wordP s 0 - 1)).size : Int) / 8 + 1) then
    finP l s (wordP s 0 - 1) (valsP s (rdOf ByteArray.empty l (wordP s 0 - 1)).size 0 [])
  else (0, [], false)
theorem wordP_in (s : ByteArray) (i : Int) : -9223372036854775808 ≤ wordP s i ∧ wordP s i ≤ 9223372036854775807 := by
  unfold wordP wrap64; omega
theorem ty_mem {l : List ByteArray} {t : Int} (h0 : 0 ≤ t) (h1 : t < l.length) : rdOf ByteArray.empty l t ∈ l := by
  unfold rdOf; rw [List.getD_eq_getElem?_getD, List.getElem?_eq_getElem (by omega)]; exact List.getElem_mem _
theorem roP_len (l : List ByteArray) (s : ByteArray) : (roP l s).2.1.length ≤ 1048576 := by
  unfold roP
  split
  · rename_i h
    have hm := ty_mem (l := l) (t := wordP s 0 - 1) (by omega) (by omega)
    have h9 := isType_ok _ ((tys_of h.1).2.2 _ hm)
    unfold finP
    split
    · rw [valsP_len]; simp only [List.length_nil]; omega
    · simp
  · simp
theorem sRO_l (l : List ByteArray) (s : ByteArray) (t : Int) (hl : l.length ≤ 1048576) (hx : ∀ s ∈ l, s.size ≤ 9223372036854775807) (hs : s.size ≤ 1048576) (h1 : 1 ≤ t) (h2 : t ≤ (l.length : Int)) (y : ByteArray) (hy : rdOf ByteArray.empty l (t - 1) = y) (hys : y.size ≤ 23) (hz : (s.size : Int) = 64 * ((y.size : Int) / 8 + 1)) : ∀ (n i : Nat) (vs : List Int), i + n = y.size → vs.length = i → Ev (fun k => spec_ReadObject.l0 k l s t (i : Int) (t - 1) vs) (finP l s (t - 1) (valsP s n i vs)) := by
  intro n
  induction n with
  | zero =>
    intro i vs hi hv
    refine Ev.step (f := fun k => (spec_ObjectBytes.f k l (t - 1) vs).bind fun z => (if z.toList = s.toList then (some (t - 1, vs, true)) else (some (0, ([] : List Int), false)))) (fun k => by simp only [spec_ReadObject.l0]; rw [w64 (n := t - 1) (by omega) (by omega), if_pos (by omega), if_pos (by omega), hy, if_neg (by omega)]) ?_
    refine evThen (sOB l (t - 1) vs hl hx) (fun k => rfl) (evIs fun k => ?_)
    unfold finP valsP
    by_cases c : objP l (t - 1) vs = s
    · rw [if_pos (by rw [c]), if_pos c]
    · rw [if_neg (fun e => c (toList_inj.1 e)), if_neg c]
  | succ n ih =>
    intro i vs hi hv
    have ih := ih (i + 1) (vs ++ [wordP s (8 + 8 * (i : Int))]) (by omega) (by rw [List.length_append, List.length_singleton]; omega)
    rw [valsP]
    have e8 : wrap64 (8 + wrap64 (8 * (i : Int))) = 8 + 8 * (i : Int) := by rw [w64 (n := 8 * (i : Int)) (by omega) (by omega), w64 (by omega) (by omega)]
    have e16 : wrap64 (16 + wrap64 (8 * (i : Int))) = 16 + 8 * (i : Int) := by rw [w64 (n := 8 * (i : Int)) (by omega) (by omega), w64 (by omega) (by omega)]
    refine Ev.step (f := fun k => (spec_ReadWord.f k (s.extract (8 + 8 * i) (16 + 8 * i))).bind fun z => (if vs.length < 17592186044416 then (spec_ReadObject.l0 k l s t ((i + 1 : Nat) : Int) (t - 1) (vs ++ [z.1])) else none)) (fun k => by
      simp only [spec_ReadObject.l0]
      rw [w64 (n := t - 1) (by omega) (by omega), if_pos (by omega), if_pos (by omega), hy, if_pos (by omega), e8, e16, if_pos (by omega), if_pos (by omega), if_pos (by omega), w64 (n := (i : Int) + 1) (by omega) (by omega), show (8 + 8 * (i : Int)).toNat = 8 + 8 * i by omega, show (16 + 8 * (i : Int)).toNat = 16 + 8 * i by omega]; rfl) ?_
    refine evThen (sRW8_ev _ (by rw [ByteArray.size_extract]; omega)) (fun k => rfl) (Ev.congr (fun k => ?_) ih)
    rw [if_pos (by omega), wordP_extract s _ _ 0 (by omega) (by omega) (by omega)]
    simp only [Int.add_zero]
    rfl
theorem sRO (l : List ByteArray) (s : ByteArray) (hl : l.length ≤ 1048576) (hx : ∀ s ∈ l, s.size ≤ 9223372036854775807) (hs : s.size ≤ 1048576) : Ev (fun k => spec_ReadObject.f k l s) (roP l s) := by
  refine evThen (sTys l (by omega) hx) (fun k => rfl) ?_
  have hw := wordP_in s 0
  have fin : ∀ (b : Bool), b = true → Ev (fun k => spec_ReadObject.j0 k l s b) (0, [], false) := fun b hb => evIs1 fun k => by simp only [spec_ReadObject.j0]; rw [if_pos hb]
  by_cases c1 : impl_TypesOk.g l = true
  · simp only [if_pos c1]
    by_cases c2 : (s.size : Int) < 64
    · have e : roP l s = (0, [], false) := by unfold roP; rw [if_neg (fun h => by omega)]
      rw [e]; exact fin _ (decide_eq_true c2)
    · rw [decide_eq_false c2]
      refine Ev.step (f := fun k => (spec_ReadWord.f k (s.extract 0 8)).bind fun z => ((spec_l1In.f z.1 1 (l.length : Int)).bind fun q => (if q = true then (if 0 ≤ (wrap64 (z.1 - 1)) then (if (wrap64 (z.1 - 1)) < (l.length : Int) then ((spec_RunOf.f k (rdOf ByteArray.empty l (wrap64 (z.1 - 1)))).bind fun u => (spec_ReadObject.j1 k l s z.1 ((s.size : Int) != (wrap64 (64 * u))))) else (none)) else (none)) else (spec_ReadObject.j1 k l s z.1 true)))) (fun k => by simp only [spec_ReadObject.j0]; rw [if_neg (by decide), if_pos (by omega), if_pos (by omega)]) ?_
      refine evThen (sRW8_ev _ (by rw [ByteArray.size_extract]; omega)) (fun k => rfl) ?_
      rw [wordP_extract s 0 8 0 (by omega) (by omega) (by omega)]
      simp only [sIn, Option.bind_some, show ((0 : Nat) : Int) + 0 = 0 from rfl]
      by_cases c3 : 1 ≤ wordP s 0 ∧ wordP s 0 ≤ (l.length : Int)
      · have hm := ty_mem (l := l) (t := wordP s 0 - 1) (by omega) (by omega)
        have hg := (tys_of c1).2.2 _ hm
        have h9 := isType_ok _ hg
        simp only [decide_eq_true c3, if_true, w64 (n := wordP s 0 - 1) (by omega) (by omega), if_pos (show 0 ≤ wordP s 0 - 1 by omega), if_pos (show wordP s 0 - 1 < (l.length : Int) by omega)]
        refine evThen (sRun _ (by omega)) (fun k => rfl) ?_
        rw [run_of hg, w64 (n := 64 * (((rdOf ByteArray.empty l (wordP s 0 - 1)).size : Int) / 8 + 1)) (by omega) (by omega)]
        by_cases c4 : (s.size : Int) = 64 * (((rdOf ByteArray.empty l (wordP s 0 - 1)).size : Int) / 8 + 1)
        · rw [bne_eq_false_iff_eq.mpr c4]
          unfold roP; rw [if_pos ⟨c1, by omega, c3, c4⟩]
          refine Ev.step (f := fun k => spec_ReadObject.l0 k l s (wordP s 0) 0 (wordP s 0 - 1) []) (fun k => by simp only [spec_ReadObject.j1]; rw [if_neg (by decide), w64 (by omega) (by omega)]) ?_
          exact sRO_l l s _ hl hx hs c3.1 c3.2 _ rfl h9.2.1 c4 _ 0 [] (by omega) rfl
        · rw [bne_iff_ne.mpr c4]
          unfold roP; rw [if_neg (fun h => c4 h.2.2.2)]
          exact evIs1 fun k => by simp only [spec_ReadObject.j1]; rw [if_pos trivial]
      · simp only [decide_eq_false c3, Bool.false_eq_true, if_false]
        unfold roP; rw [if_neg (fun h => c3 h.2.2.1)]
        exact evIs1 fun k => by simp only [spec_ReadObject.j1]; rw [if_pos trivial]
  · simp only [if_neg c1]
    have e : roP l s = (0, [], false) := by unfold roP; rw [if_neg (fun h => c1 h.1)]
    rw [e]; exact fin _ rfl
theorem iIn (a b c : Int) : impl_within.f a b c = some (decide (b ≤ a ∧ a ≤ c)) := by
  unfold impl_within.f
  by_cases h : a ≥ b
  · rw [if_pos h]; congr 1; rw [decide_eq_decide]; omega
  · rw [if_neg h]; congr 1; symm; rw [decide_eq_false_iff_not]; omega
theorem iZeros (n : Nat) (h : n ≤ 140737488355328) : impl_zeros.f (n : Int) = some (zs n) := by
  unfold impl_zeros.f; rw [if_pos (by omega), if_pos (by omega)]; rfl
theorem iBB8 (k : Nat) (x : Int) : impl_bigBytes.f (k + 9) x 8 = some (strOfNums (wbx x)) := by
  unfold impl_bigBytes.f
  simp (config := {maxSteps := 1000000}) [impl_bigBytes.l0, wrap64, List.replicate, wbx, Int.ediv_ediv]
theorem iWB (k : Nat) (a0 : Int) : impl_WordBytes.f (k + 9) a0 = some (wb a0) := by
  unfold impl_WordBytes.f
  rw [iBB8]; simp [u64, wb]
theorem iWB_ev (a0 : Int) : Ev (fun k => impl_WordBytes.f k a0) (wb a0) := ⟨9, fun k hk => by
  obtain ⟨m, rfl⟩ : ∃ m, k = m + 9 := ⟨k - 9, by omega⟩
  exact iWB m a0⟩
theorem iRunOf (s : ByteArray) (hs : s.size ≤ 23) : impl_runOf.f s = some ((s.size : Int) / 8 + 1) := by
  unfold impl_runOf.f
  rw [w64 (n := (s.size : Int) + 8) (by omega) (by omega), run_w _ (by omega), Int.tdiv_eq_ediv_of_nonneg (by omega)]; congr 1; omega
theorem iOB_l (l : List ByteArray) (t : Int) (vs us : List Int) (s : ByteArray) (h0 : 0 ≤ t) (h1 : t < (l.length : Int)) (hs : rdOf ByteArray.empty l t = s) (hb : s.size ≤ 23) (hv : vs.length = s.size) : ∀ (n i : Nat) (x : ByteArray), i + n = vs.length → x.size = 8 + 8 * i → Ev (fun k => impl_objectBytes.l0 k l x vs (vs.length : Int) (i : Int) t us) (catW (vs.drop i) x ++ restP s (8 + 8 * vs.length)) := by
  intro n
  induction n with
  | zero =>
    intro i x hi hx
    rw [List.drop_eq_nil_iff.2 (by omega)]
    refine evIs1 fun k => ?_
    simp only [impl_objectBytes.l0]
    rw [if_neg (by omega), if_pos h0, if_pos h1, hs, iRunOf s hb, Option.bind_some, zs_arg s hb x.size (by omega), iZeros _ (by omega), Option.bind_some, if_pos (by rw [zs_size]; omega)]
    unfold restP catW
    rw [show x.size = 8 + 8 * vs.length by omega]
  | succ n ih =>
    intro i x hi hx
    have hil : i < vs.length := by omega
    rw [List.drop_eq_getElem_cons hil, catW]
    have ih := ih (i + 1) (x ++ wb vs[i]) (by omega) (by rw [ByteArray.size_append, wb_size]; omega)
    refine Ev.step (f := fun k => (impl_WordBytes.f k vs[i]).bind fun z => (if x.size + z.size ≤ 9223372036854775807 then (impl_objectBytes.l0 k l (x ++ z) vs (vs.length : Int) ((i + 1 : Nat) : Int) t us) else none)) (fun k => by simp only [impl_objectBytes.l0]; rw [if_pos (by omega), if_pos (by omega), if_pos (by omega), rd_at vs i hil, w64 (by omega) (by omega)]; rfl) ?_
    refine evThen (iWB_ev vs[i]) (fun k => rfl) (Ev.congr (fun k => by rw [if_pos (by rw [wb_size]; omega)]) ih)
theorem iOB (l : List ByteArray) (t : Int) (vs : List Int) : Ev (fun k => impl_ObjectBytes.f k l t vs) (objP l t vs) := by
  unfold objP
  by_cases c : impl_ObjOk.g l t vs = true
  · obtain ⟨h1, h2, h3, h4, h5, h6⟩ := obj_facts c
    rw [if_pos c]
    refine Ev.congr (fun k => by unfold impl_ObjectBytes.f; rw [iObj, Option.bind_some, if_pos c]) ?_
    refine evThen (a := catW vs (wb (wrap64 (t + 1))) ++ restP (rdOf ByteArray.empty l t) (8 + 8 * vs.length)) (g := fun k => impl_objectBytes.f k l t vs) ?_ (fun k => rfl) (evIs fun k => rfl)
    exact evThen (iWB_ev _) (fun k => rfl) (iOB_l l t vs vs _ h1 h2 rfl h4 h5 vs.length 0 _ (by omega) (by rw [wb_size]))
  · rw [if_neg c]; exact evIs fun k => by unfold impl_ObjectBytes.f; rw [iObj, Option.bind_some, if_neg c]
theorem iWl (s : ByteArray) (at_ : Int) (h0 : 0 ≤ at_) (hs : at_ + 8 ≤ (s.size : Int)) (hm : (s.size : Int) ≤ 9223372036854775807) (d : Nat) : ∀ (k j : Nat), j + d = 8 → d < k → impl_wordAt.l0 k s at_ (wrap64 (hn s at_ j)) j = some (wordP s at_) := by
  induction d with
  | zero =>
    intro k j hj hk
    obtain ⟨k, rfl⟩ : ∃ m, k = m + 1 := ⟨k - 1, by omega⟩
    obtain rfl : j = 8 := by omega
    simp only [impl_wordAt.l0]; rw [if_neg (by omega)]; rfl
  | succ d ih =>
    intro k j hj hk
    obtain ⟨k, rfl⟩ : ∃ m, k = m + 1 := ⟨k - 1, by omega⟩
    have hb := bt_range s (at_ + j)
    simp only [impl_wordAt.l0]; rw [w64 (n := at_ + (j : Int)) (by omega) (by omega), if_pos (by omega), if_pos (by omega), if_pos (by omega), w64 (n := (j : Int) + 1) (by omega) (by omega), w64 (n := bt s (at_ + j)) (by omega) (by omega)]
    have e : Go.bits .or .i64 (wrap64 (wrap64 (hn s at_ j) * 256)) (bt s (at_ + j)) = wrap64 (hn s at_ (j + 1)) := by
      rw [orW _ _ hb.1 hb.2]
      simp only [hn]; unfold wrap64; omega
    rw [e]; exact ih k (j + 1) (by omega) (by omega)
theorem iWA (k : Nat) (s : ByteArray) (at_ : Int) (h0 : 0 ≤ at_) (hs : at_ + 8 ≤ (s.size : Int)) (hm : (s.size : Int) ≤ 9223372036854775807) : impl_wordAt.f (k + 9) s at_ = some (wordP s at_) := by
  have e := iWl s at_ h0 hs hm 8 (k + 9) 0 (by omega) (by omega)
  simp only [hn, show ((0 : Nat) : Int) = 0 from rfl, w64 (n := 0) (by omega) (by omega)] at e
  exact e
theorem iWA_ev (s : ByteArray) (at_ : Int) (h0 : 0 ≤ at_) (hs : at_ + 8 ≤ (s.size : Int)) (hm : (s.size : Int) ≤ 9223372036854775807) : Ev (fun k => impl_wordAt.f k s at_) (wordP s at_) := ⟨9, fun k hk => by
  obtain ⟨m, rfl⟩ : ∃ m, k = m + 9 := ⟨k - 9, by omega⟩
  exact iWA m s at_ h0 hs hm⟩
theorem iOO_l (s : ByteArray) (t : Int) (m : Nat) (hm : m ≤ 23) (hs : s.size ≤ 1048576) (hz : 8 + 8 * m ≤ s.size) : ∀ (n i : Nat) (vs : List Int), i + n = m → vs.length = i → Ev (fun k => impl_objectOf.l0 k s (m : Int) (i : Int) t vs) (t, valsP s n i vs) := by
  intro n
  induction n with
  | zero =>
    intro i vs hi hv
    exact evIs1 fun k => by simp only [impl_objectOf.l0]; rw [if_neg (by omega)]; rfl
  | succ n ih =>
    intro i vs hi hv
    have ih := ih (i + 1) (vs ++ [wordP s (8 + 8 * (i : Int))]) (by omega) (by rw [List.length_append, List.length_singleton]; omega)
    rw [valsP]
    have e8 : wrap64 (8 + wrap64 (8 * (i : Int))) = 8 + 8 * (i : Int) := by rw [w64 (n := 8 * (i : Int)) (by omega) (by omega), w64 (by omega) (by omega)]
    refine Ev.step (f := fun k => (impl_wordAt.f k s (8 + 8 * (i : Int))).bind fun z => (if vs.length < 17592186044416 then (impl_objectOf.l0 k s (m : Int) ((i + 1 : Nat) : Int) t (vs ++ [z])) else none)) (fun k => by
      simp only [impl_objectOf.l0]
      rw [if_pos (by omega), e8, w64 (n := (i : Int) + 1) (by omega) (by omega)]; rfl) ?_
    exact evThen (iWA_ev s _ (by omega) (by omega) (by omega)) (fun k => rfl) (Ev.congr (fun k => by rw [if_pos (by omega)]) ih)
theorem iRO (l : List ByteArray) (s : ByteArray) (hl : l.length ≤ 1048576) (hs : s.size ≤ 1048576) : Ev (fun k => impl_ReadObject.f k l s) (roP l s) := by
  refine Ev.congr (fun k => by unfold impl_ReadObject.f; rw [iTys, Option.bind_some]) ?_
  have hw := wordP_in s 0
  have fin : ∀ (b : Bool), b = true → Ev (fun k => impl_ReadObject.j0 k l s b) (0, [], false) := fun b hb => evIs1 fun k => by simp only [impl_ReadObject.j0]; rw [if_pos hb]
  by_cases c1 : impl_TypesOk.g l = true
  · simp only [if_pos c1]
    by_cases c2 : (s.size : Int) < 8
    · have e : roP l s = (0, [], false) := by unfold roP; rw [if_neg (fun h => by omega)]
      rw [e]; exact fin _ (decide_eq_true c2)
    · rw [decide_eq_false c2]
      refine Ev.step (f := fun k => (impl_wordAt.f k s 0).bind fun z => ((impl_size_string.f l).bind fun w => ((impl_within.f z 1 w).bind fun q => (if q = true then (if 0 ≤ (wrap64 (z - 1)) then (if (wrap64 (z - 1)) < (l.length : Int) then ((impl_runOf.f (rdOf ByteArray.empty l (wrap64 (z - 1)))).bind fun u => (impl_ReadObject.j1 k l s z ((s.size : Int) != (wrap64 (64 * u))))) else (none)) else (none)) else (impl_ReadObject.j1 k l s z true))))) (fun k => by simp only [impl_ReadObject.j0]; rw [if_neg (by decide)]) ?_
      refine evThen (iWA_ev s 0 (by omega) (by omega) (by omega)) (fun k => rfl) ?_
      simp only [impl_size_string.f, iIn, Option.bind_some]
      by_cases c3 : 1 ≤ wordP s 0 ∧ wordP s 0 ≤ (l.length : Int)
      · have hm := ty_mem (l := l) (t := wordP s 0 - 1) (by omega) (by omega)
        have hg := (tys_of c1).2.2 _ hm
        have h9 := isType_ok _ hg
        simp only [decide_eq_true c3, if_true, w64 (n := wordP s 0 - 1) (by omega) (by omega), if_pos (show 0 ≤ wordP s 0 - 1 by omega), if_pos (show wordP s 0 - 1 < (l.length : Int) by omega), iRunOf _ h9.2.1, Option.bind_some]
        rw [w64 (n := 64 * (((rdOf ByteArray.empty l (wordP s 0 - 1)).size : Int) / 8 + 1)) (by omega) (by omega)]
        by_cases c4 : (s.size : Int) = 64 * (((rdOf ByteArray.empty l (wordP s 0 - 1)).size : Int) / 8 + 1)
        · rw [bne_eq_false_iff_eq.mpr c4]
          unfold roP; rw [if_pos ⟨c1, by omega, c3, c4⟩]
          refine Ev.step (f := fun k => (impl_objectOf.f k l (wordP s 0 - 1) s).bind fun z => ((impl_ObjectBytes.f k l z.1 z.2).bind fun u => (if u.toList = s.toList then (some (z.1, z.2, true)) else (some (0, ([] : List Int), false))))) (fun k => by simp only [impl_ReadObject.j1]; rw [if_neg (by decide), w64 (by omega) (by omega)]) ?_
          refine evThen (a := (wordP s 0 - 1, valsP s (rdOf ByteArray.empty l (wordP s 0 - 1)).size 0 [])) (Ev.congr (fun k => by unfold impl_objectOf.f; rw [if_pos (by omega), if_pos (by omega)]; rfl) (iOO_l s _ _ h9.2.1 hs (by omega) _ 0 [] (by omega) rfl)) (fun k => rfl) ?_
          refine evThen (iOB l _ _) (fun k => rfl) (evIs fun k => ?_)
          unfold finP
          by_cases c : objP l (wordP s 0 - 1) (valsP s (rdOf ByteArray.empty l (wordP s 0 - 1)).size 0 []) = s
          · rw [if_pos (by rw [c]), if_pos c]
          · rw [if_neg (fun e => c (toList_inj.1 e)), if_neg c]
        · rw [bne_iff_ne.mpr c4]
          unfold roP; rw [if_neg (fun h => c4 h.2.2.2)]
          exact evIs1 fun k => by simp only [impl_ReadObject.j1]; rw [if_pos trivial]
      · simp only [decide_eq_false c3, Bool.false_eq_true, if_false]
        unfold roP; rw [if_neg (fun h => c3 h.2.2.1)]
        exact evIs1 fun k => by simp only [impl_ReadObject.j1]; rw [if_pos trivial]
  · simp only [if_neg c1]
    have e : roP l s = (0, [], false) := by unfold roP; rw [if_neg (fun h => c1 h.1)]
    rw [e]; exact fin _ rfl
theorem FnExactReadObject (l : List ByteArray) (s : ByteArray) (hl : l.length ≤ 9223372036854775807) (hx : ∀ s ∈ l, s.size ≤ 9223372036854775807) (hs : s.size ≤ 9223372036854775807) : ∃ k, laws_FnExactReadObject.f k l s = some true := by
  by_cases hbig : (s.size : Int) > 1048576
  · exact ⟨0, by unfold laws_FnExactReadObject.f; rw [if_pos hbig]⟩
  refine Ev.rounds (r := true) ?_
  unfold laws_FnExactReadObject.f
  simp only [if_neg hbig]
  obtain ⟨r, hr, _, _, hb⟩ := szStringS_ev l hl hx 1048576 (by omega) (by omega)
  refine evThen hr (fun k => rfl) ?_
  by_cases d : r < 0
  · simp only [if_pos d]; exact Ev.now _
  · obtain ⟨hl', hx'⟩ := hb (by omega)
    have t := toStrs_ev l hl'
    have hq := roP_len l s
    have e := eqObj_refl (roP l s).1 (roP l s).2.1 (by omega)
    have im := iRO l s hl' (by omega)
    obtain ⟨mk, hmk, hmk0⟩ := markStrs_ev l hl'
    have hh := heldObj_ev (roP l s).1 (roP l s).2.1.length hq
    simp only [if_neg d]
    refine evThen t (fun k => rfl) (evThen (sRO l s hl' hx (by omega)) (fun k => rfl) (evThen t (fun k => rfl) (evThen im (fun k => rfl) (evThen e (fun k => rfl) ?_))))
    simp only [if_true, bne_self_eq_false]
    refine Ev.step (f := fun k => _) (fun k => by simp (implicitDefEqProofs := false) only [laws_FnExactReadObject.j0, Bool.false_eq_true, if_false]; rfl) ?_
    refine evThen t (fun k => rfl) (evThen (eqStrs_refl l hl) (fun k => rfl) ?_)
    simp only [if_true]
    refine evThen hmk (fun k => rfl) ?_
    simp only [if_neg (show ¬ mk.1 < 0 by omega)]
    refine evThen e (fun k => rfl) ?_
    simp only [if_true, bne_self_eq_false]
    refine Ev.step (f := fun k => _) (fun k => by simp (implicitDefEqProofs := false) only [laws_FnExactReadObject.j1, Bool.false_eq_true, if_false]; rfl) ?_
    refine evThen (markObj_ev (roP l s).1 (roP l s).2.1 hq) (fun k => rfl) (evThen hh (fun k => rfl) ?_)
    simp only [if_neg (show ¬ (1 + ((roP l s).2.1.length : Int)) < 0 by omega), if_true]
    refine evThen t (fun k => rfl) (evThen im (fun k => rfl) (evThen e (fun k => rfl) ?_))
    simp only [if_true, bne_self_eq_false]
    refine Ev.step (f := fun k => _) (fun k => by simp (implicitDefEqProofs := false) only [laws_FnExactReadObject.j2, Bool.false_eq_true, if_false]; rfl) ?_
    refine evThen hh (fun k => rfl) ?_
    simp only [if_neg (show ¬ (1 + ((roP l s).2.1.length : Int)) < 0 by omega), if_true]
    exact Ev.now _
end Go.Proofs.YtknllhfhcgahiaaDoor.Pure
