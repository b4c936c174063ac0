/- The records of an image's log that the program reads are those that the reference reads: the law's function returns true for every configuration and image, with no condition. -/
import Derived.Test.YtngccjeicolcpaaGreatDoorPFnExactLogOfx0
import Derived.Test.YtngccjeicolcpaaGreatDoorPFnExactLogOfx1
import Derived.Test.YtngccjeicolcpaaGreatDoorPFnExactLogOfx2
import Derived.Test.YtngccjeicolcpaaGreatDoorPFnExactLogOfx3
import Derived.Test.YtngccjeicolcpaaGreatDoorPFnExactLogOfx4
import Derived.Test.YtngccjeicolcpaaGreatDoorPFnExactLogOfx5
import Derived.Test.YtngccjeicolcpaaGreatDoorPFnExactLogOfx6
import Derived.Test.YtngccjeicolcpaaGreatDoorPFnExactLogOfx7
import Derived.Test.YtngccjeicolcpaaGreatDoorPFnExactLogOfx8
import Derived.Test.YtngccjeicolcpaaGreatDoorPFnExactLogOfx9
import Derived.Test.YtngccjeicolcpaaGreatDoorPFnExactLogOfx10
import Derived.Test.YtngccjeicolcpaaGreatDoorPFnExactLogOfx11
import Derived.Test.YtngccjeicolcpaaGreatDoorPFnExactLogOfx12
import Derived.Test.YtngccjeicolcpaaGreatDoorPFnExactLogOfx13
namespace Go.Proofs.YtngccjeicolcpaaGreatDoor.Pure
open Go.RowKit Go.Proofs.YtngccjeicolcpaaGreatDoor.PFnExactLogOf Go.Proofs.YtngccjeicolcpaaGreatDoorW.PrintWords Go.Proofs.YtngccjeicolcpaaGreatDoorW.PrintLast
set_option linter.unusedVariables false
set_option linter.unusedSimpArgs false
theorem w64 {n : Int} (h0 : -9223372036854775808 ≤ n) (h1 : n ≤ 9223372036854775807) : wrap64 n = n := by unfold wrap64; omega
theorem u64 (n : Int) : IntKind.u64.wrap n = n % 18446744073709551616 := by simp [IntKind.wrap, IntKind.bits, IntKind.signed]
theorem evThen {α β : Type} {g : Nat → Option α} {h : Nat → Option β} {f : Nat → α → Option β} {a : α} {r : β} (e : Ev g a) (he : ∀ k, h k = (g k).bind (f k)) (k : Ev (fun n => f n a) r) : Ev h r := Ev.congr he (Ev.bind e k)
theorem evIs {α : Type} {g : Nat → Option α} {r : α} (h : ∀ k, g k = some r) : Ev g r := ⟨0, fun k _ => h k⟩
theorem evIs1 {α : Type} {g : Nat → Option α} {r : α} (h : ∀ k, g (k + 1) = some r) : Ev g r := ⟨1, fun k hk => by cases k with | zero => omega | succ k => exact h k⟩
theorem rdS (l : List ByteArray) (i : Nat) (h : i < l.length) : rdOf ByteArray.empty l (i : Int) = l[i] := by
  unfold rdOf; rw [Int.toNat_natCast, List.getD_eq_getElem?_getD, List.getElem?_eq_getElem h]; rfl
theorem szStringS_l (l : List ByteArray) (hl : l.length ≤ 9223372036854775807) (hx : ∀ s ∈ l, s.size ≤ 9223372036854775807) : ∀ (n : Nat) (left : Int) (i : Nat), i + n = l.length → 0 ≤ left → left ≤ 1048576 → ∃ r, Ev (fun k => laws_szStringS.l0 k l left (i : Int)) r ∧ r ≤ left ∧ -1 ≤ r ∧ (0 ≤ r → ∀ s ∈ l.drop i, s.size ≤ 1048576) := by
  intro n
  induction n with
  | zero => intro left i hi h0 h1; exact ⟨left, evIs1 (fun k => by simp only [laws_szStringS.l0]; rw [if_neg (by omega)]), by omega, by omega, fun _ => by rw [List.drop_eq_nil_iff.2 (by omega)]; intro s hs; cases hs⟩
  | succ n ih =>
    intro left i hi h0 h1
    have hil : i < l.length := by omega
    have hb := hx _ (List.getElem_mem hil)
    by_cases c : left - ((l[i]).size : Int) < 0
    · refine ⟨-1, evIs1 (fun k => ?_), by omega, by omega, by omega⟩
      simp only [laws_szStringS.l0]
      rw [if_pos (by omega), if_pos (by omega), rdS l i hil, if_pos (by rw [w64 (by omega) (by omega)]; exact c)]
    · obtain ⟨z, hz, z1, z2, z3⟩ := ih (left - ((l[i]).size : Int)) (i + 1) (by omega) (by omega) (by omega)
      refine ⟨z, Ev.step (f := fun k => laws_szStringS.l0 k l (left - ((l[i]).size : Int)) ((i + 1 : Nat) : Int)) (fun k => ?_) hz, by omega, z2, fun hz0 => ?_⟩
      · simp only [laws_szStringS.l0]
        rw [if_pos (by omega), if_pos (by omega), rdS l i hil, w64 (n := left - ((l[i]).size : Int)) (by omega) (by omega), if_neg c, w64 (by omega) (by omega)]
        rfl
      · rw [List.drop_eq_getElem_cons hil]
        intro s hs
        rcases List.mem_cons.1 hs with rfl | hs
        · omega
        · exact z3 hz0 s hs
theorem szStringS_ev (l : List ByteArray) (hl : l.length ≤ 9223372036854775807) (hx : ∀ s ∈ l, s.size ≤ 9223372036854775807) (left : Int) (h0 : left ≤ 1048576) (h1 : 0 ≤ left) : ∃ r, Ev (fun k => laws_szStringS.f k l left) r ∧ r ≤ left ∧ -1 ≤ r ∧ (0 ≤ r → l.length ≤ 1048576 ∧ ∀ s ∈ l, s.size ≤ 1048576) := by
  have e : wrap64 (left - (l.length : Int)) = left - (l.length : Int) := w64 (by omega) (by omega)
  by_cases c : left - (l.length : Int) < 0
  · exact ⟨-1, evIs fun k => by unfold laws_szStringS.f; rw [e, if_pos c], by omega, by omega, by omega⟩
  · obtain ⟨r, hr, r1, r2, r3⟩ := szStringS_l l hl hx l.length (left - (l.length : Int)) 0 (by omega) (by omega) (by omega)
    exact ⟨r, Ev.congr (fun k => by unfold laws_szStringS.f; rw [e, if_neg c]; rfl) hr, by omega, r2, fun h => ⟨by omega, fun s hs => r3 h s (by simpa using hs)⟩⟩
theorem szConfig_ev (a b c : Int) (l : List ByteArray) (hl : l.length ≤ 9223372036854775807) (hx : ∀ s ∈ l, s.size ≤ 9223372036854775807) (left : Int) (h0 : left ≤ 1048576) (h1 : 0 ≤ left) : ∃ r, Ev (fun k => laws_szConfig.f k a b c l left) r ∧ r ≤ left ∧ -1 ≤ r ∧ (0 ≤ r → l.length ≤ 1048576 ∧ ∀ s ∈ l, s.size ≤ 1048576) := by
  obtain ⟨r, hr, r1, r2, r3⟩ := szStringS_ev l hl hx left h0 h1
  by_cases d : r < 0
  · exact ⟨-1, evThen hr (fun k => rfl) (evIs fun k => by rw [if_pos d]), by omega, by omega, by omega⟩
  · exact ⟨r, evThen hr (fun k => rfl) (evIs fun k => by rw [if_neg d]), r1, r2, r3⟩
theorem toStrs_l (l : List ByteArray) (hl : l.length ≤ 1048576) : ∀ (n i : Nat), i + n = l.length → Ev (fun k => laws_toStringS.l0 k l (l.take i ++ List.replicate n (⟨#[]⟩ : ByteArray)) (i : Int)) l := by
  intro n
  induction n with
  | zero =>
    intro i hi
    refine evIs1 (fun k => ?_)
    simp only [laws_toStringS.l0]
    rw [if_neg (by omega), List.take_of_length_le (by omega)]
    simp
  | succ n ih =>
    intro i hi
    have h := ih (i + 1) (by omega)
    refine Ev.step (f := fun k => laws_toStringS.l0 k l (l.take (i + 1) ++ List.replicate n (⟨#[]⟩ : ByteArray)) ((i + 1 : Nat) : Int)) (fun k => ?_) h
    simp only [laws_toStringS.l0]
    have hlen : (l.take i ++ List.replicate (n + 1) (⟨#[]⟩ : ByteArray)).length = l.length := by simp; omega
    have hi' : i < l.length := by omega
    rw [if_pos (by omega), if_pos (by omega), if_pos (by rw [hlen]; omega), w64 (by omega) (by omega), rdS l i hi']
    congr 1
    have hm : (l.take i).length = i := by simp; omega
    rw [Int.toNat_natCast, List.set_append_right _ _ (by omega), hm, Nat.sub_self, List.replicate_succ, List.set_cons_zero, List.take_add_one, List.append_assoc]
    congr 1
    simp [hi']
theorem toStrs_ev (l : List ByteArray) (hl : l.length ≤ 1048576) : Ev (fun k => laws_toStringS.f k l) l := by
  have h := toStrs_l l hl l.length 0 (by omega)
  refine Ev.congr (fun k => ?_) h
  unfold laws_toStringS.f
  rw [if_pos (by omega), if_pos (by omega)]
  simp
theorem toConfig_ev (a b c : Int) (l : List ByteArray) (hl : l.length ≤ 1048576) : Ev (fun k => laws_toConfig.f k a b c l) (a, b, c, l) :=
  evThen (toStrs_ev l hl) (fun k => rfl) (evIs fun k => rfl)
theorem eqStrs_l (l : List ByteArray) (hl : l.length ≤ 9223372036854775807) : ∀ (n i : Nat), i + n = l.length → Ev (fun k => laws_eqStringS.l0 k l l (i : Int)) true := by
  intro n
  induction n with
  | zero =>
    intro i hi
    exact evIs1 (fun k => by simp only [laws_eqStringS.l0]; rw [if_neg (by omega)])
  | succ n ih =>
    intro i hi
    refine Ev.step (f := fun k => laws_eqStringS.l0 k l l ((i + 1 : Nat) : Int)) (fun k => ?_) (ih (i + 1) (by omega))
    simp only [laws_eqStringS.l0]
    rw [if_pos (by omega), if_pos (by omega), if_pos (by omega), if_pos trivial, w64 (by omega) (by omega)]
    rfl
theorem eqStrs_refl (l : List ByteArray) (hl : l.length ≤ 9223372036854775807) : Ev (fun k => laws_eqStringS.f k l l) true :=
  Ev.congr (fun k => by unfold laws_eqStringS.f; rw [if_pos rfl]; rfl) (eqStrs_l l hl l.length 0 (by omega))
theorem eqConfig_refl (a b c : Int) (l : List ByteArray) (hl : l.length ≤ 9223372036854775807) : Ev (fun k => laws_eqConfig.f k a b c l a b c l) true :=
  evThen (eqStrs_refl l hl) (fun k => by unfold laws_eqConfig.f; rw [if_pos rfl, if_pos rfl, if_pos rfl]) (evIs fun k => by rw [if_pos rfl])
theorem markText_l : ∀ (n : Nat) (x : Int) (t : ByteArray), x < 10 ^ n → x ≤ 1000000000 → t.size + n ≤ 1000 → ∃ r, Ev (fun k => laws_markText.l0 k x t) r := by
  intro n
  induction n with
  | zero =>
    intro x t h _ ht
    exact ⟨_, Ev.step (f := fun _ => some _) (fun k => by simp only [laws_markText.l0]; rw [if_neg (by simp at h; omega), if_pos (by omega)]) (Ev.now _)⟩
  | succ n ih =>
    intro x t h hx ht
    by_cases c : x > 0
    · have hs : ∀ z : Int, (strOfNums [z]).size = 1 := fun z => by rw [strOfNums_size]; rfl
      have hd : Int.tdiv x 10 = x / 10 := Int.tdiv_eq_ediv_of_nonneg (by omega)
      obtain ⟨r, hr⟩ := ih (x / 10) (strOfNums [(wrap64 (48 + (Int.tmod x 10))) % 256] ++ t) (by rw [Int.pow_succ] at h; omega) (by omega) (by rw [ByteArray.size_append, hs]; omega)
      refine ⟨r, Ev.step (f := fun k => laws_markText.l0 k (x / 10) (strOfNums [(wrap64 (48 + (Int.tmod x 10))) % 256] ++ t)) (fun k => ?_) hr⟩
      simp only [laws_markText.l0]
      rw [if_pos c, Option.bind_some, if_pos (by rw [hs]; omega), hd, w64 (by omega) (by omega)]
    · exact ⟨_, Ev.step (f := fun _ => some _) (fun k => by simp only [laws_markText.l0]; rw [if_neg c, if_pos (by omega)]) (Ev.now _)⟩
theorem markText_ev (a : Int) (h : a ≤ 1000000000) : ∃ r, Ev (fun k => laws_markText.f k a) r := by
  by_cases c : a ≤ 0
  · exact ⟨_, evIs fun k => by unfold laws_markText.f; rw [if_pos c]⟩
  · obtain ⟨r, hr⟩ := markText_l 10 a (⟨#[]⟩ : ByteArray) (by omega) h (by decide)
    exact ⟨r, Ev.congr (fun k => by unfold laws_markText.f; rw [if_neg c]) hr⟩
theorem markStrs_l : ∀ (n : Nat) (l : List ByteArray) (i : Nat) (a : Int), l.length ≤ 1048576 → i + n = l.length → 0 ≤ a → a + n ≤ 100000000 → ∃ r, Ev (fun k => laws_markStringS.l0 k l a (i : Int)) r ∧ 0 ≤ r.1 := by
  intro n
  induction n with
  | zero =>
    intro l i a hl hi h0 h1
    exact ⟨(a, l), evIs1 (fun k => by simp only [laws_markStringS.l0]; rw [if_neg (by omega)]), h0⟩
  | succ n ih =>
    intro l i a hl hi h0 h1
    obtain ⟨t, ht⟩ := markText_ev a (by omega)
    obtain ⟨r, hr, hr0⟩ := ih (l.set i t) (i + 1) (a + 1) (by rw [List.length_set]; exact hl) (by rw [List.length_set]; omega) (by omega) (by omega)
    refine ⟨r, Ev.step (f := fun k => (laws_markText.f k a).bind fun t => laws_markStringS.l0 k (l.set i t) (a + 1) ((i + 1 : Nat) : Int)) (fun k => ?_) (evThen ht (fun k => rfl) hr), hr0⟩
    simp only [laws_markStringS.l0]
    rw [if_pos (by omega), w64 (n := a + 1) (by omega) (by omega), w64 (n := (i : Int) + 1) (by omega) (by omega)]
    simp only [if_pos (show (0 : Int) ≤ (i : Int) by omega), Int.toNat_natCast]
    rfl
theorem markStrs_ev (l : List ByteArray) (hl : l.length ≤ 1048576) : ∃ r, Ev (fun k => laws_markStringS.f k l 1) r ∧ 0 ≤ r.1 := markStrs_l l.length l 0 1 hl (by omega) (by omega) (by omega)
theorem sIn (a b c : Int) : spec_l1In.f a b c = some (decide (b ≤ a ∧ a ≤ c)) := by
  unfold spec_l1In.f
  by_cases h : a ≥ b
  · rw [if_pos h]; congr 1; rw [decide_eq_decide]; omega
  · rw [if_neg h]; congr 1; symm; rw [decide_eq_false_iff_not]; omega
theorem ok_at (s : ByteArray) (i : Nat) (h : i < s.size) (h' : i < s.data.toList.length) : impl_isType.ok (s.data.toList[i]) = (decide (bt s (i : Int) = 105) || decide (bt s (i : Int) = 114)) := by
  have e : bt s (i : Int) = ((s.data.toList[i]).toNat : Int) := by
    rw [← bt_at s (i : Int) (by rw [Int.toNat_natCast]; exact h)]
    simp only [Int.toNat_natCast, Array.getElem_toList]; rfl
  rw [e]
  generalize s.data.toList[i] = b
  unfold impl_isType.ok
  have g : ∀ n : UInt8, (b == n) = decide ((b.toNat : Int) = (n.toNat : Int)) := by
    intro n
    by_cases hb : b = n
    · subst hb; simp
    · have : ¬ ((b.toNat : Int) = (n.toNat : Int)) := fun q => hb (UInt8.toNat_inj.1 (by omega))
      simp [hb, this]
  rw [g 105, g 114]; rfl
theorem sTyp_l (s : ByteArray) (hs : s.size ≤ 9223372036854775807) : ∀ (n i : Nat), i + n = s.size → Ev (fun k => spec_l3Type.l0 k s (i : Int)) (decide (1 ≤ (s.size : Int) ∧ (s.size : Int) ≤ 23) && (s.data.toList.drop i).all impl_isType.ok) := by
  intro n
  have hl : s.data.toList.length = s.size := Array.length_toList
  induction n with
  | zero =>
    intro i hi
    refine evIs1 fun k => ?_
    simp only [spec_l3Type.l0]
    rw [if_neg (by omega), sIn, Option.bind_some, List.drop_eq_nil_iff.2 (by omega), List.all_nil, Bool.and_true]
  | succ n ih =>
    intro i hi
    have ih := ih (i + 1) (by omega)
    have hil : i < s.data.toList.length := by omega
    have e := ok_at s i (by omega) hil
    rw [List.drop_eq_getElem_cons hil, List.all_cons, e]
    by_cases c1 : bt s (i : Int) = 105
    · rw [decide_eq_true c1, Bool.true_or, Bool.true_and]
      refine Ev.step (f := fun k => spec_l3Type.l0 k s ((i + 1 : Nat) : Int)) (fun k => ?_) ih
      simp only [spec_l3Type.l0]
      rw [if_pos (by omega), if_pos (by omega), if_pos c1, w64 (by omega) (by omega)]; rfl
    · by_cases c2 : bt s (i : Int) = 114
      · rw [decide_eq_true c2, Bool.or_true, Bool.true_and]
        refine Ev.step (f := fun k => spec_l3Type.l0 k s ((i + 1 : Nat) : Int)) (fun k => ?_) ih
        simp only [spec_l3Type.l0]
        rw [if_pos (by omega), if_pos (by omega), if_neg c1, if_pos c2, w64 (by omega) (by omega)]; rfl
      · rw [decide_eq_false c1, decide_eq_false c2, Bool.or_false, Bool.false_and, Bool.and_false]
        refine evIs1 fun k => ?_
        simp only [spec_l3Type.l0]
        rw [if_pos (by omega), if_pos (by omega), if_neg c1, if_neg c2]
theorem sTyp (s : ByteArray) (hs : s.size ≤ 9223372036854775807) : Ev (fun k => spec_l3Type.f k s) (impl_isType.g s) :=
  Ev.congr (fun k => rfl) (sTyp_l s hs s.size 0 (by omega))
theorem sTys_l (l : List ByteArray) (hl : l.length ≤ 9223372036854775807) (hx : ∀ s ∈ l, s.size ≤ 9223372036854775807) : ∀ (n i : Nat), i + n = l.length → Ev (fun k => spec_TypesOk.l0 k l (i : Int)) ((l.drop i).all impl_isType.g) := by
  intro n
  induction n with
  | zero =>
    intro i hi
    exact evIs1 (fun k => by simp only [spec_TypesOk.l0]; rw [if_neg (by omega), List.drop_eq_nil_iff.2 (by omega)]; rfl)
  | succ n ih =>
    intro i hi
    have hil : i < l.length := by omega
    have ih := ih (i + 1) (by omega)
    have ht := sTyp l[i] (hx _ (List.getElem_mem hil))
    rw [List.drop_eq_getElem_cons hil, List.all_cons]
    refine Ev.step (f := fun k => (spec_l3Type.f k l[i]).bind fun t => if t = true then spec_TypesOk.l0 k l ((i + 1 : Nat) : Int) else some false) (fun k => ?_) ?_
    · simp only [spec_TypesOk.l0]
      rw [if_pos (by omega), if_pos (by omega), rdS l i hil, w64 (by omega) (by omega)]; rfl
    · refine evThen ht (fun k => rfl) ?_
      by_cases c : impl_isType.g l[i] = true
      · rw [c, Bool.true_and]; simp only [if_true]; exact ih
      · rw [Bool.eq_false_iff.2 c, Bool.false_and]; exact evIs fun k => rfl
theorem sTys (l : List ByteArray) (hl : l.length ≤ 9223372036854775807) (hx : ∀ s ∈ l, s.size ≤ 9223372036854775807) : Ev (fun k => spec_TypesOk.f k l) (impl_TypesOk.g l) := by
  have e : ∀ k, spec_TypesOk.f k l = if (decide (1 ≤ (l.length : Int) ∧ (l.length : Int) ≤ 12)) = true then spec_TypesOk.l0 k l 0 else some false := fun k => by
    unfold spec_TypesOk.f; rw [sIn, Option.bind_some]
  unfold impl_TypesOk.g
  by_cases c : 1 ≤ (l.length : Int) ∧ (l.length : Int) ≤ 12
  · rw [decide_eq_true c, Bool.true_and]
    refine Ev.congr (fun k => ?_) (sTys_l l hl hx l.length 0 (by omega))
    rw [e k, decide_eq_true c, if_pos rfl]; rfl
  · rw [decide_eq_false c, Bool.false_and]
    exact evIs fun k => by rw [e k, decide_eq_false c]; rfl
def cfgB (a b c : Int) : Bool := decide ((8 ≤ a ∧ a ≤ 128) ∧ (1 ≤ b ∧ b ≤ 32) ∧ b ≤ a - 5 ∧ (2 ≤ c ∧ c ≤ 400))
def cfgP (a b c : Int) (l : List ByteArray) : Bool := cfgB a b c && impl_TypesOk.g l
theorem cfgB_no {a b c : Int} (h : ¬ ((8 ≤ a ∧ a ≤ 128) ∧ (1 ≤ b ∧ b ≤ 32) ∧ b ≤ a - 5 ∧ (2 ≤ c ∧ c ≤ 400))) : cfgB a b c = false := decide_eq_false h
theorem cfgP_of {a b c : Int} {l : List ByteArray} (h : cfgP a b c l = true) : ((8 ≤ a ∧ a ≤ 128) ∧ (1 ≤ b ∧ b ≤ 32) ∧ b ≤ a - 5 ∧ (2 ≤ c ∧ c ≤ 400)) ∧ impl_TypesOk.g l = true := by
  unfold cfgP cfgB at h; rw [Bool.and_eq_true, decide_eq_true_eq] at h; exact h
theorem sCfg_eq (a b c : Int) (l : List ByteArray) (k : Nat) : spec_ConfigOk.f k a b c l = if cfgB a b c = true then spec_TypesOk.f k l else some false := by
  unfold spec_ConfigOk.f
  rw [sIn, Option.bind_some]
  by_cases c1 : 8 ≤ a ∧ a ≤ 128
  · rw [decide_eq_true c1, if_pos rfl, sIn, Option.bind_some]
    by_cases c2 : 1 ≤ b ∧ b ≤ 32
    · rw [decide_eq_true c2, if_pos rfl, w64 (by omega) (by omega)]
      by_cases c3 : b ≤ a - 5
      · rw [if_pos c3, sIn, Option.bind_some]
        by_cases c4 : 2 ≤ c ∧ c ≤ 400
        · rw [decide_eq_true c4, if_pos rfl, if_pos (show cfgB a b c = true from decide_eq_true ⟨c1, c2, c3, c4⟩)]
          cases spec_TypesOk.f k l <;> rfl
        · rw [decide_eq_false c4, if_neg (by decide), cfgB_no (fun h => c4 h.2.2.2), if_neg (by decide)]
      · rw [if_neg c3, cfgB_no (fun h => c3 h.2.2.1), if_neg (by decide)]
    · rw [decide_eq_false c2, if_neg (by decide), cfgB_no (fun h => c2 h.2.1), if_neg (by decide)]
  · rw [decide_eq_false c1, if_neg (by decide), cfgB_no (fun h => c1 h.1), if_neg (by decide)]
theorem sCfg (a b c : Int) (l : List ByteArray) (hl : l.length ≤ 9223372036854775807) (hx : ∀ s ∈ l, s.size ≤ 9223372036854775807) : Ev (fun k => spec_ConfigOk.f k a b c l) (cfgP a b c l) := by
  unfold cfgP
  by_cases h : cfgB a b c = true
  · rw [h, Bool.true_and]; exact Ev.congr (fun k => by rw [sCfg_eq, if_pos h]) (sTys l hl hx)
  · rw [Bool.eq_false_iff.2 h, Bool.false_and]; exact evIs fun k => by rw [sCfg_eq, if_neg h]
theorem xorN (a b : Nat) (ha : a < 4294967296) (hb : b < 4294967296) : Go.bits .xor .u32 (a : Int) (b : Int) = ((a ^^^ b : Nat) : Int) := by
  have hx : a ^^^ b < 2 ^ 32 := Nat.xor_lt_two_pow (by omega) (by omega)
  show IntKind.u32.wrap (((BitVec.ofInt 32 (a : Int) ^^^ BitVec.ofInt 32 (b : Int)).toNat : Nat) : Int) = _
  rw [BitVec.toNat_xor, BitVec.ofInt_natCast, BitVec.ofInt_natCast, BitVec.toNat_ofNat, BitVec.toNat_ofNat, Nat.mod_eq_of_lt (by omega : a < 2 ^ 32), Nat.mod_eq_of_lt (by omega : b < 2 ^ 32), IntKind.wrap_u32]
  omega
theorem xor_lt (a b : Nat) (ha : a < 4294967296) (hb : b < 4294967296) : a ^^^ b < 4294967296 := Nat.xor_lt_two_pow (n := 32) (by omega) (by omega)
theorem and1 (c : Nat) (h : c < 4294967296) : Go.bits .and .u32 (c : Int) 1 = ((c % 2 : Nat) : Int) := by
  have e := bits_mask .u32 32 (by decide) (fun n h0 h1 => by rw [IntKind.wrap_u32]; omega) 1 (by decide) (c : Int) (by omega) (by omega)
  simpa using e
/-- one bit of the checksum -/
def crcBit (c : Nat) : Nat := if c % 2 = 1 then (c / 2) ^^^ 3988292384 else c / 2
def crcBits : Nat → Nat → Nat
  | 0, c => c
  | n + 1, c => crcBits n (crcBit c)
theorem crcBit_lt {c : Nat} (h : c < 4294967296) : crcBit c < 4294967296 := by
  unfold crcBit; split
  · exact xor_lt _ _ (by omega) (by omega)
  · omega
theorem crcBits_lt : ∀ (n : Nat) {c : Nat}, c < 4294967296 → crcBits n c < 4294967296
  | 0, _, h => h
  | n + 1, _, h => crcBits_lt n (crcBit_lt h)
/-- a byte, as a number -/
def btN (s : ByteArray) (i : Nat) : Nat := (bt s i).toNat
theorem btN_le (s : ByteArray) (i : Nat) : btN s i ≤ 255 := by have := bt_range s i; unfold btN; omega
theorem btN_cast (s : ByteArray) (i : Nat) : ((btN s i : Nat) : Int) = bt s i := by have := bt_range s i; unfold btN; omega
/-- the state behind the first n bytes -/
def crcAt (s : ByteArray) : Nat → Nat
  | 0 => 4294967295
  | n + 1 => crcBits 8 (crcAt s n ^^^ btN s n)
theorem crcAt_lt (s : ByteArray) : ∀ n, crcAt s n < 4294967296
  | 0 => by show 4294967295 < 4294967296; omega
  | n + 1 => crcBits_lt 8 (xor_lt _ _ (crcAt_lt s n) (by have := btN_le s n; omega))
def crcNum (s : ByteArray) : Nat := 4294967295 ^^^ crcAt s s.size
theorem crcNum_lt (s : ByteArray) : crcNum s < 4294967296 := xor_lt _ _ (by omega) (crcAt_lt s _)
def four (x : Int) : List Int := [x / 16777216 % 256, x / 65536 % 256, x / 256 % 256, x % 256]
def crcStr (s : ByteArray) : ByteArray := strOfNums (four (crcNum s))
theorem crcStr_size (s : ByteArray) : (crcStr s).size = 4 := by rw [crcStr, strOfNums_size]; rfl
/-- so many zero bytes -/
def zs (n : Nat) : ByteArray := strOfNums (List.replicate n 0)
theorem zs_size (n : Nat) : (zs n).size = n := by rw [zs, strOfNums_size]; simp
/-- what a string is sealed as -/
def pad (s : ByteArray) : ByteArray := s ++ zs (60 - s.size)
theorem pad_size (s : ByteArray) (h : s.size ≤ 60) : (pad s).size = 60 := by rw [pad, ByteArray.size_append, zs_size]; omega
def sealedP (s : ByteArray) : ByteArray := if 60 < s.size then (⟨#[]⟩ : ByteArray) else pad s ++ crcStr (pad s)
theorem sealedP_size (s : ByteArray) (h : s.size ≤ 60) : (sealedP s).size = 64 := by
  unfold sealedP; rw [if_neg (by omega), ByteArray.size_append, pad_size s h, crcStr_size]
theorem sZeros (n : Nat) (h : n ≤ 281474976710656) : spec_l1Zeros.f (n : Int) = some (zs n) := by
  unfold spec_l1Zeros.f; rw [if_pos (by omega), if_pos (by omega)]; rfl
theorem sCrc_in (s : ByteArray) (x4 : Int) (r : ByteArray) : ∀ (d j c : Nat), j + d = 8 → c < 4294967296 → Ev (fun k => spec_l1Crc.l0 k s (crcBits d c : Nat) (wrap64 (x4 + 1))) r → Ev (fun k => spec_l1Crc.l1 k s (c : Nat) x4 j) r := by
  intro d
  induction d with
  | zero =>
    intro j c hj hc h
    refine Ev.step (f := fun k => spec_l1Crc.l0 k s (c : Nat) (wrap64 (x4 + 1))) (fun k => ?_) h
    simp only [spec_l1Crc.l1]; rw [if_neg (by omega)]
  | succ d ih =>
    intro j c hj hc h
    refine Ev.step (f := fun k => spec_l1Crc.l1 k s (crcBit c : Nat) x4 ((j + 1 : Nat) : Int)) (fun k => ?_) (ih (j + 1) (crcBit c) (by omega) (crcBit_lt hc) h)
    simp only [spec_l1Crc.l1]; rw [if_pos (by omega), w64 (n := (j : Int) + 1) (by omega) (by omega)]
    have e2 : ((c : Int) / 2) = ((c / 2 : Nat) : Int) := by omega
    have e1 : Int.tmod (c : Int) 2 = ((c % 2 : Nat) : Int) := by rw [Int.tmod_eq_emod_of_nonneg (by omega)]; omega
    rw [e1, e2]
    unfold crcBit
    by_cases h1 : c % 2 = 1
    · rw [if_pos (by omega), if_pos h1, show (3988292384 : Int) = ((3988292384 : Nat) : Int) from rfl, xorN _ _ (by omega) (by omega)]; rfl
    · rw [if_neg (by omega), if_neg h1]; rfl
theorem sCrc_out (s : ByteArray) (hs : s.size ≤ 4611686018427387904) : ∀ (d i : Nat), i + d = s.size → Ev (fun k => spec_l1Crc.l0 k s (crcAt s i : Nat) i) (crcStr s) := by
  intro d
  induction d with
  | zero =>
    intro i hi
    refine Ev.step (f := fun _ => some (crcStr s)) (fun k => ?_) (Ev.now _)
    simp only [spec_l1Crc.l0]; rw [if_neg (by omega)]
    obtain rfl : i = s.size := by omega
    rw [show (4294967295 : Int) = ((4294967295 : Nat) : Int) from rfl, xorN _ _ (by omega) (crcAt_lt s _)]; rfl
  | succ d ih =>
    intro i hi
    have hb := btN_le s i
    refine Ev.step (f := fun k => spec_l1Crc.l1 k s ((crcAt s i ^^^ btN s i : Nat) : Int) i ((0 : Nat) : Int)) (fun k => ?_) ?_
    · simp only [spec_l1Crc.l0]; rw [if_pos (by omega), if_pos (by omega), ← btN_cast, show ((btN s i : Nat) : Int) % 4294967296 = (btN s i : Nat) by omega, xorN _ _ (crcAt_lt s i) (by omega)]; rfl
    · refine sCrc_in s i _ 8 0 _ rfl (xor_lt _ _ (crcAt_lt s i) (by omega)) ?_
      have := ih (i + 1) (by omega)
      rw [w64 (n := (i : Int) + 1) (by omega) (by omega)]
      exact this
theorem sCrc (s : ByteArray) (hs : s.size ≤ 4611686018427387904) : Ev (fun k => spec_l1Crc.f k s) (crcStr s) := by
  refine Ev.congr (fun k => ?_) (sCrc_out s hs s.size 0 (by omega))
  rfl
theorem sSealed (s : ByteArray) (hs : s.size ≤ 4611686018427387904) : Ev (fun k => spec_Sealed.f k s) (sealedP s) := by
  by_cases h : (s.size : Int) > 60
  · refine evIs fun k => ?_
    unfold spec_Sealed.f sealedP; rw [if_pos h, if_pos (by omega)]
  · have hz := pad_size s (by omega)
    have e : ∀ k, spec_Sealed.f k s = (spec_l1Crc.f k (pad s)).bind fun t => (if (pad s).size + t.size ≤ 9223372036854775807 then some (pad s ++ t) else none) := by
      intro k
      unfold spec_Sealed.f
      rw [if_neg h, w64 (by omega) (by omega), show (60 : Int) - (s.size : Int) = ((60 - s.size : Nat) : Int) by omega, sZeros _ (by omega)]
      simp only [Option.bind_some]
      rw [if_pos (by rw [zs_size]; omega)]; rfl
    refine evThen (sCrc (pad s) (by omega)) e (evIs fun k => ?_)
    rw [if_pos (by rw [hz, crcStr_size]; omega)]
    unfold sealedP; rw [if_neg (by omega)]
def wbx (x : Int) : List Int := [x / 72057594037927936 % 256, x / 281474976710656 % 256, x / 1099511627776 % 256, x / 4294967296 % 256, x / 16777216 % 256, x / 65536 % 256, x / 256 % 256, x % 256]
def wb (a : Int) : ByteArray := strOfNums (wbx (a % 18446744073709551616))
theorem wb_size (a : Int) : (wb a).size = 8 := by rw [wb, strOfNums_size]; rfl
theorem bt_strOfNums (xs : List Int) (h : ∀ x ∈ xs, 0 ≤ x ∧ x ≤ 255) (i : Nat) (hi : i < xs.length) : bt (strOfNums xs) i = xs[i] := by
  have e := bt_at (strOfNums xs) i (by rw [strOfNums_size]; simpa using hi)
  rw [← e]
  have hx := h xs[i] (List.getElem_mem hi)
  simp only [strOfNums, ByteArray.getElem_eq_getElem_data]
  simp
  omega
theorem sWB (k : Nat) (a0 : Int) : spec_WordBytes.f (k + 9) a0 = some (wb a0) := by
  unfold spec_WordBytes.f
  simp (config := {maxSteps := 1000000}) [spec_WordBytes.l0, wrap64, u64, List.replicate, shr, IntKind.bits, wb, wbx]
theorem sWB_ev (a0 : Int) : Ev (fun k => spec_WordBytes.f k a0) (wb a0) := ⟨9, fun k hk => by
  obtain ⟨m, rfl⟩ : ∃ m, k = m + 9 := ⟨k - 9, by omega⟩
  exact sWB m a0⟩
theorem orNat (X b : Nat) (hb : b < 256) : (X * 256) ||| b = X * 256 + b := by
  have h := Nat.two_pow_add_eq_or_of_lt (i := 8) (b := b) (by omega) X
  rw [show 2 ^ 8 * X = X * 256 by omega] at h
  exact h.symm
theorem ofInt_toNat64 (z : Int) : (BitVec.ofInt 64 z).toNat = (z % 18446744073709551616).toNat := by
  rw [BitVec.toNat_ofInt]; rfl
theorem bitsOr (k : IntKind) (hk : k.bits = 64) (z w b : Int) (hz : z % 18446744073709551616 = (w * 256) % 18446744073709551616) (hb : 0 ≤ b) (hb1 : b ≤ 255) :
    Go.bits .or k z b = k.wrap ((w * 256) % 18446744073709551616 + b) := by
  unfold Go.bits
  rw [hk]
  simp only [BitVec.toNat_or, ofInt_toNat64, hz]
  have e : ((w * 256) % 18446744073709551616).toNat = (w % 72057594037927936).toNat * 256 := by omega
  have e2 : (b % 18446744073709551616).toNat = b.toNat := by omega
  rw [e, e2, orNat _ _ (by omega)]
  congr 1; omega
theorem orW (x b : Int) (hb : 0 ≤ b) (hb1 : b ≤ 255) : Go.bits .or .i64 (wrap64 (x * 256)) b = wrap64 (x * 256 + b) := by
  rw [bitsOr .i64 rfl _ x b (by unfold wrap64; omega) hb hb1, IntKind.wrap_i64]; unfold wrap64; omega
theorem orU (x b : Int) (hb : 0 ≤ b) (hb1 : b ≤ 255) : Go.bits .or .u64 ((x * 256) % 18446744073709551616) b = (x * 256 + b) % 18446744073709551616 := by
  rw [bitsOr .u64 rfl _ x b (by omega) hb hb1, u64]; omega
/-- the number that n bytes tell, the highest one first -/
def hn (s : ByteArray) (i : Int) : Nat → Int
  | 0 => 0
  | n + 1 => hn s i n * 256 + bt s (i + n)
def wordP (s : ByteArray) (i : Int) : Int := wrap64 (hn s i 8)
/-- two bytes -/
def sb (n : Int) : ByteArray := if 0 ≤ n ∧ n ≤ 65535 then strOfNums [n / 256 % 256, n % 256] else (⟨#[]⟩ : ByteArray)
theorem cut6 (a b c d e f g h : Int) : (strOfNums [a, b, c, d, e, f, g, h]).extract 6 (strOfNums [a, b, c, d, e, f, g, h]).size = strOfNums [g, h] := by
  apply ByteArray.ext
  simp [strOfNums, ByteArray.size]
theorem or8 (a b : Int) (ha : 0 ≤ a) (ha1 : a ≤ 255) (hb : 0 ≤ b) (hb1 : b ≤ 255) : Go.bits .or .i64 (a * 256) b = a * 256 + b :=
  bits_join .i64 63 (by decide) (fun n h0 h1 => by rw [IntKind.wrap_i64]; omega) 8 _ _ (by omega) (by omega) (by omega) hb (by omega) (by omega)
theorem ext_bt {s t : ByteArray} (h : s.size = t.size) (hb : ∀ i : Nat, i < s.size → bt s i = bt t i) : s = t := by
  apply ByteArray.ext
  apply Array.ext h
  intro i h1 h2
  have e := hb i h1
  rw [← bt_at s i (by simpa using h1), ← bt_at t i (by simpa using h2)] at e
  have e2 : (s[i]'h1).toNat = (t[i]'h2).toNat := by
    have : ((s[(i : Int).toNat]'(by simpa using h1)).toNat : Int) = ((t[(i : Int).toNat]'(by simpa using h2)).toNat : Int) := e
    simp only [Int.toNat_natCast] at this
    omega
  exact UInt8.toNat_inj.mp e2
theorem rs_sb (n : Int) (h : 0 ≤ n ∧ n ≤ 65535) : (sb n).size = 2 ∧ bt (sb n) 0 * 256 + bt (sb n) 1 = n := by
  have hr : ∀ x ∈ ([n / 256 % 256, n % 256] : List Int), 0 ≤ x ∧ x ≤ 255 := by intro x hx; simp at hx; omega
  have e0 := bt_strOfNums _ hr 0 (by simp)
  have e1 := bt_strOfNums _ hr 1 (by simp)
  unfold sb; rw [if_pos h]
  refine ⟨by rw [strOfNums_size]; rfl, ?_⟩
  have e0' : bt (strOfNums [n / 256 % 256, n % 256]) 0 = n / 256 % 256 := e0
  have e1' : bt (strOfNums [n / 256 % 256, n % 256]) 1 = n % 256 := e1
  rw [e0', e1']; omega
theorem toList_inj {s t : ByteArray} : s.toList = t.toList ↔ s = t := by
  rw [ByteArray.toList_eq, ByteArray.toList_eq]
  exact ⟨fun h => ByteArray.ext (Array.toList_inj.mp h), fun h => by rw [h]⟩
theorem bt_extract (s : ByteArray) (a b : Nat) (i : Int) (h0 : 0 ≤ i) (hi : a + i < b) (hb : b ≤ s.size) : bt (s.extract a b) i = bt s (a + i) := by
  have h1 : i.toNat < (s.extract a b).size := by rw [ByteArray.size_extract]; omega
  have h2 : ((a : Int) + i).toNat < s.size := by omega
  rw [← bt_at _ i h1, ← bt_at s (a + i) h2]
  have e : ((a : Int) + i).toNat = a + i.toNat := by omega
  simp only [ByteArray.getElem_eq_getElem_data, ByteArray.data_extract, Array.getElem_extract, e]
theorem bt_append_l (s t : ByteArray) (i : Int) (h0 : 0 ≤ i) (hi : i < s.size) : bt (s ++ t) i = bt s i := by
  have h1 : i.toNat < (s ++ t).size := by rw [ByteArray.size_append]; omega
  have h2 : i.toNat < s.size := by omega
  rw [← bt_at _ i h1, ← bt_at s i h2]
  simp only [ByteArray.getElem_eq_getElem_data, ByteArray.data_append]
  rw [Array.getElem_append_left]
theorem bt_append_r (s t : ByteArray) (i : Int) (h0 : s.size ≤ i) (hi : i < s.size + t.size) : bt (s ++ t) i = bt t (i - s.size) := by
  have h1 : i.toNat < (s ++ t).size := by rw [ByteArray.size_append]; omega
  have h2 : (i - s.size).toNat < t.size := by omega
  rw [← bt_at _ i h1, ← bt_at t _ h2]
  have e : (i - (s.size : Int)).toNat = i.toNat - s.data.size := by show _ = i.toNat - s.size; omega
  simp only [ByteArray.getElem_eq_getElem_data, ByteArray.data_append, e]
  rw [Array.getElem_append_right (by show s.size ≤ _; omega)]
theorem hn_congr (s t : ByteArray) (i j : Int) : ∀ n : Nat, (∀ m : Nat, m < n → bt s (i + m) = bt t (j + m)) → hn s i n = hn t j n
  | 0, _ => rfl
  | n + 1, h => by rw [hn, hn, hn_congr s t i j n (fun m hm => h m (by omega)), h n (by omega)]
theorem wordP_congr (s t : ByteArray) (i j : Int) (h : ∀ m : Nat, m < 8 → bt s (i + m) = bt t (j + m)) : wordP s i = wordP t j := by
  unfold wordP; rw [hn_congr s t i j 8 h]
theorem wordP_extract (s : ByteArray) (a b : Nat) (i : Int) (h0 : 0 ≤ i) (hi : a + i + 8 ≤ b) (hb : b ≤ s.size) : wordP (s.extract a b) i = wordP s (a + i) :=
  wordP_congr _ _ _ _ (fun m hm => by rw [bt_extract s a b _ (by omega) (by omega) hb]; congr 1; omega)
theorem extract_extract (s : ByteArray) (a b c d : Nat) (h : a + d ≤ b) : (s.extract a b).extract c d = s.extract (a + c) (a + d) := by
  apply ByteArray.ext
  simp only [ByteArray.data_extract, Array.extract_extract]
  congr 1; omega
theorem extract_append_l (s t : ByteArray) (b : Nat) (h : b ≤ s.size) : (s ++ t).extract 0 b = s.extract 0 b := by
  refine ext_bt (by rw [ByteArray.size_extract, ByteArray.size_extract, ByteArray.size_append]; omega) (fun i hi => ?_)
  rw [ByteArray.size_extract, ByteArray.size_append] at hi
  rw [bt_extract _ _ _ _ (by omega) (by omega) (by rw [ByteArray.size_append]; omega), bt_extract _ _ _ _ (by omega) (by omega) h, bt_append_l _ _ _ (by omega) (by omega)]
theorem extract_all (s : ByteArray) (b : Nat) (h : s.size ≤ b) : s.extract 0 b = s := by
  refine ext_bt (by rw [ByteArray.size_extract]; omega) (fun i hi => ?_)
  rw [ByteArray.size_extract] at hi
  apply congrFun (congrArg bt ?_)
  apply ByteArray.ext
  simp only [ByteArray.data_extract]
  exact Array.extract_eq_self_of_le (by show s.size ≤ b; exact h)
theorem extract_append_r (s t : ByteArray) (b : Nat) (h : s.size + t.size ≤ b) : (s ++ t).extract s.size b = t := by
  refine ext_bt (by rw [ByteArray.size_extract, ByteArray.size_append]; omega) (fun i hi => ?_)
  rw [ByteArray.size_extract, ByteArray.size_append] at hi
  have e : (s ++ t).extract s.size b = (s ++ t).extract s.size (s.size + t.size) := by
    apply ByteArray.ext
    simp only [ByteArray.data_extract]
    rw [Array.extract_eq_extract_right]
    have z : (s.data ++ t.data).size = s.size + t.size := by rw [Array.size_append]; rfl
    rw [← ByteArray.data_append] at z
    rw [z]; omega
  rw [e, bt_extract _ _ _ _ (by omega) (by omega) (by rw [ByteArray.size_append]; omega), bt_append_r _ _ _ (by omega) (by omega)]
  congr 1; omega
/-- what is sealed, opened again -/
def unsP (s : ByteArray) : ByteArray × Bool := if s.size = 64 ∧ crcStr (s.extract 0 60) = s.extract 60 s.size then (s.extract 0 60, true) else ((⟨#[]⟩ : ByteArray), false)
theorem sealed_head (t : ByteArray) (h : t.size ≤ 60) : (sealedP t).extract 0 60 = pad t := by
  unfold sealedP; rw [if_neg (by omega), extract_append_l _ _ _ (by rw [pad_size t h]; omega), extract_all _ _ (by rw [pad_size t h]; omega)]
theorem sealed_tail (t : ByteArray) (h : t.size ≤ 60) : (sealedP t).extract 60 (sealedP t).size = crcStr (pad t) := by
  rw [sealedP_size t h]
  unfold sealedP; rw [if_neg (by omega)]
  have e := extract_append_r (pad t) (crcStr (pad t)) 64 (by rw [pad_size t h, crcStr_size]; omega)
  rw [pad_size t h] at e; exact e
theorem uns_sealed (t : ByteArray) (h : t.size ≤ 60) : unsP (sealedP t) = (pad t, true) := by
  unfold unsP; rw [sealed_head t h, sealed_tail t h, if_pos ⟨sealedP_size t h, rfl⟩]
def epochLineP (e : Int) : ByteArray := if 0 ≤ e ∧ e ≤ 1000000000 then sealedP (wb e) else (⟨#[]⟩ : ByteArray)
def readEpochP (s : ByteArray) : Int × Bool := if s.size = 64 ∧ epochLineP (wordP s 0) = s then (wordP s 0, true) else (0, false)
theorem sEL (e : Int) : Ev (fun k => spec_EpochLine.f k e) (epochLineP e) := by
  unfold spec_EpochLine.f
  simp only [sIn, Option.bind_some]
  by_cases h : 0 ≤ e ∧ e ≤ 1000000000
  · simp only [show decide (0 ≤ e ∧ e ≤ 1000000000) = true by simpa using h, if_true]
    refine evThen (sWB_ev e) (fun k => rfl) (evThen (sSealed (wb e) (by rw [wb_size]; omega)) (f := fun _ t => some t) (fun k => rfl) (evIs fun k => ?_))
    unfold epochLineP; rw [if_pos h]
  · simp only [show decide (0 ≤ e ∧ e ≤ 1000000000) = false by simpa using h, Bool.false_eq_true, if_false]
    refine evIs fun k => ?_
    unfold epochLineP; rw [if_neg h]
theorem sWl (s : ByteArray) (hs : (s.size : Int) = 8) (d : Nat) : ∀ (k j : Nat), j + d = 8 → d < k → spec_ReadWord.l0 k s (hn s 0 j % 18446744073709551616) j = some (wordP s 0, true) := by
  induction d with
  | zero =>
    intro k j hj hk
    obtain ⟨k, rfl⟩ : ∃ m, k = m + 1 := ⟨k - 1, by omega⟩
    obtain rfl : j = 8 := by omega
    simp only [spec_ReadWord.l0]; rw [if_neg (by omega)]
    unfold wordP; congr 2; unfold wrap64; omega
  | succ d ih =>
    intro k j hj hk
    obtain ⟨k, rfl⟩ : ∃ m, k = m + 1 := ⟨k - 1, by omega⟩
    have hb := bt_range s j
    simp only [spec_ReadWord.l0]; rw [if_pos (by omega), if_pos (by omega), if_pos (by omega), w64 (n := (j : Int) + 1) (by omega) (by omega)]
    have e : Go.bits .or .u64 (IntKind.u64.wrap (hn s 0 j % 18446744073709551616 * 256)) (IntKind.u64.wrap (bt s j)) = hn s 0 (j + 1) % 18446744073709551616 := by
      rw [u64, u64, show bt s j % 18446744073709551616 = bt s j by omega, orU _ _ hb.1 hb.2]
      simp only [hn, Int.zero_add]; omega
    rw [e]; exact ih k (j + 1) (by omega) (by omega)
theorem sRW8 (k : Nat) (s : ByteArray) (h : s.size = 8) : spec_ReadWord.f (k + 9) s = some (wordP s 0, true) := by
  have e1 := sWl s (by omega) 8 (k + 9) 0 (by omega) (by omega)
  simp only [hn, Int.zero_emod, show ((0 : Nat) : Int) = 0 from rfl] at e1
  unfold spec_ReadWord.f
  rw [if_pos (by omega), e1]
theorem sRW8_ev (s : ByteArray) (h : s.size = 8) : Ev (fun k => spec_ReadWord.f k s) (wordP s 0, true) := ⟨9, fun k hk => by
  obtain ⟨m, rfl⟩ : ∃ m, k = m + 9 := ⟨k - 9, by omega⟩
  exact sRW8 m s h⟩
theorem sRE (s : ByteArray) : Ev (fun k => spec_ReadEpoch.f k s) (readEpochP s) := by
  by_cases h : s.size = 64
  · have hx : (s.extract 0 8).size = 8 := by rw [ByteArray.size_extract]; omega
    have hw : wordP (s.extract 0 8) 0 = wordP s 0 := by have := wordP_extract s 0 8 0 (by omega) (by omega) (by omega); simpa using this
    refine evThen (sRW8_ev (s.extract 0 8) hx) (f := fun k bt127 => ((spec_EpochLine.f k bt127.1).bind fun t129 => (if t129.toList = s.toList then (some (bt127.1, true)) else (some (0, false))))) (fun k => ?_) ?_
    · unfold spec_ReadEpoch.f; rw [if_pos (by omega), if_pos (by omega), if_pos (by omega)]
    · refine evThen (sEL _) (fun k => rfl) (evIs fun k => ?_)
      simp only [hw]
      unfold readEpochP
      by_cases c : epochLineP (wordP s 0) = s
      · rw [if_pos (toList_inj.mpr c), if_pos ⟨h, c⟩]
      · rw [if_neg (fun z => c (toList_inj.mp z)), if_neg (fun z => c z.2)]
  · refine evIs fun k => ?_
    unfold spec_ReadEpoch.f readEpochP; rw [if_neg (by omega), if_neg (fun z => h z.1)]
def imgP (a b c : Int) (l : List ByteArray) (s : ByteArray) : Bool := cfgP a b c l && decide ((s.size : Int) = 64 * a)
def lineP (s : ByteArray) (n : Nat) : ByteArray := s.extract (64 * n) (64 * n + 64)
def epochOfP (a b c : Int) (l : List ByteArray) (s : ByteArray) : Int := if imgP a b c l s = true then (if (readEpochP (lineP s 1)).2 = true then (readEpochP (lineP s 1)).1 else -1) else -1
theorem imgP_of {a b c : Int} {l : List ByteArray} {s : ByteArray} (h : imgP a b c l s = true) : cfgP a b c l = true ∧ (s.size : Int) = 64 * a := by
  unfold imgP at h; rw [Bool.and_eq_true, decide_eq_true_eq] at h; exact h
theorem img_eq {a b c : Int} {l : List ByteArray} (s : ByteArray) (h : cfgP a b c l = true) : ((s.size : Int) == wrap64 (64 * a)) = decide ((s.size : Int) = 64 * a) := by
  obtain ⟨hc, _⟩ := cfgP_of h
  rw [w64 (by omega) (by omega)]
  by_cases e : (s.size : Int) = 64 * a
  · rw [decide_eq_true e, beq_iff_eq.mpr e]
  · rw [decide_eq_false e, beq_eq_false_iff_ne.mpr e]
theorem sImg (a b c : Int) (l : List ByteArray) (s : ByteArray) (hl : l.length ≤ 1048576) (hs : ∀ s ∈ l, s.size ≤ 9223372036854775807) : Ev (fun k => spec_l5Image.f k a b c l s) (imgP a b c l s) := by
  refine evThen (sCfg a b c l (by omega) hs) (fun k => rfl) (evIs fun k => ?_)
  unfold imgP
  by_cases h : cfgP a b c l = true
  · rw [if_pos h, img_eq s h, h, Bool.true_and]
  · rw [if_neg h, Bool.eq_false_iff.2 h, Bool.false_and]
theorem sLine (s : ByteArray) (n : Nat) (h : 64 * n + 64 ≤ s.size) (hs : s.size ≤ 1048576) : spec_l5Line.f s (n : Int) = some (lineP s n) := by
  unfold spec_l5Line.f lineP
  rw [w64 (n := 64 * (n : Int)) (by omega) (by omega), w64 (n := 64 * (n : Int) + 64) (by omega) (by omega), if_pos (by omega), if_pos (by omega), if_pos (by omega)]
  congr 2 <;> omega
theorem sEO (a b c : Int) (l : List ByteArray) (s : ByteArray) (hl : l.length ≤ 1048576) (hs : ∀ s ∈ l, s.size ≤ 9223372036854775807) (hz : s.size ≤ 1048576) : Ev (fun k => spec_EpochOf.f k a b c l s) (epochOfP a b c l s) := by
  refine evThen (sImg a b c l s hl hs) (fun k => rfl) ?_
  unfold epochOfP
  by_cases h : imgP a b c l s = true
  · obtain ⟨h1, h2⟩ := imgP_of h
    obtain ⟨hc, _⟩ := cfgP_of h1
    simp only [if_pos h]
    refine Ev.congr (fun k => by rw [show (1 : Int) = ((1 : Nat) : Int) from rfl, sLine s 1 (by omega) hz, Option.bind_some]) (evThen (sRE _) (fun k => rfl) (evIs fun k => ?_))
    split <;> rfl
  · simp only [if_neg h]; exact evIs fun k => rfl
theorem sSB (k : Nat) (n : Int) : spec_ShortBytes.f (k + 9) n = some (sb n) := by
  unfold spec_ShortBytes.f
  rw [sIn, sWB]; simp only [Option.bind_some, sb]
  by_cases h : 0 ≤ n ∧ n ≤ 65535
  · rw [if_pos (by simpa using h), if_pos h, if_pos (by rw [wb_size]; omega)]
    have e : n % 18446744073709551616 = n := by omega
    unfold wb; rw [e]; unfold wbx; rw [cut6]
  · rw [if_neg (by simpa using h), if_neg h]
theorem sSB_ev (n : Int) : Ev (fun k => spec_ShortBytes.f k n) (sb n) := ⟨9, fun k hk => by
  obtain ⟨m, rfl⟩ : ∃ m, k = m + 9 := ⟨k - 9, by omega⟩
  exact sSB m n⟩
def recBody (e q h : Int) (o : ByteArray) : ByteArray := ((((⟨#[85]⟩ : ByteArray) ++ strOfNums [q % 256]) ++ sb h) ++ wb e) ++ o
theorem one_size (x : Int) : (strOfNums [x]).size = 1 := by rw [strOfNums_size]; rfl
theorem lit1_size (x : UInt8) : (⟨#[x]⟩ : ByteArray).size = 1 := rfl
theorem recBody_size (e q h : Int) (o : ByteArray) (hh : 0 ≤ h ∧ h ≤ 65535) : (recBody e q h o).size = 12 + o.size := by
  simp only [recBody, ByteArray.size_append, lit1_size, one_size, (rs_sb h hh).1, wb_size]
def recLineP (e q h : Int) (o : ByteArray) : ByteArray := if (0 ≤ e ∧ e ≤ 999999999) ∧ (0 ≤ q ∧ q ≤ 31) ∧ (0 ≤ h ∧ h ≤ 255) ∧ o.size = 32 then sealedP (recBody e q h o) else (⟨#[]⟩ : ByteArray)
def readRecP (s : ByteArray) : Int × Int × Int × ByteArray × Bool := if s.size = 64 ∧ recLineP (wordP s 4) (bt s 1) (bt s 2 * 256 + bt s 3) (s.extract 12 44) = s then (wordP s 4, bt s 1, bt s 2 * 256 + bt s 3, s.extract 12 44, true) else (0, 0, 0, (⟨#[]⟩ : ByteArray), false)
theorem bt_ext0 (s : ByteArray) (a b : Nat) (i : Nat) (h : a + i < b) (hb : b ≤ s.size) : bt (s.extract a b) i = bt s ((a + i : Nat) : Int) := by
  rw [bt_extract s a b i (by omega) (by omega) hb]; congr 1
theorem sRLj (e q h : Int) (o : ByteArray) (hh : 0 ≤ h ∧ h ≤ 255) (ho : o.size = 32) : Ev (fun k => spec_RecordLine.j0 k false e q h o) (sealedP (recBody e q h o)) := by
  have z1 := one_size (q % 256)
  have z2 := (rs_sb h ⟨hh.1, by omega⟩).1
  have z3 := wb_size e
  have z4 := recBody_size e q h o (by omega)
  refine Ev.step (f := fun k => _) (fun k => by simp (implicitDefEqProofs := false) only [spec_RecordLine.j0, Bool.false_eq_true, if_false, Option.bind_some]; rfl) ?_
  simp only [if_pos (show 1 + (strOfNums [q % 256]).size ≤ 9223372036854775807 by omega)]
  refine evThen (sSB_ev h) (fun k => rfl) ?_
  simp only [if_pos (show ((⟨#[85]⟩ : ByteArray) ++ strOfNums [q % 256]).size + (sb h).size ≤ 9223372036854775807 by rw [ByteArray.size_append, lit1_size]; omega)]
  refine evThen (sWB_ev e) (fun k => rfl) ?_
  simp only [if_pos (show (((⟨#[85]⟩ : ByteArray) ++ strOfNums [q % 256]) ++ sb h).size + (wb e).size ≤ 9223372036854775807 by rw [ByteArray.size_append, ByteArray.size_append, lit1_size]; omega), if_pos (show ((((⟨#[85]⟩ : ByteArray) ++ strOfNums [q % 256]) ++ sb h) ++ wb e).size + o.size ≤ 9223372036854775807 by rw [ByteArray.size_append, ByteArray.size_append, ByteArray.size_append, lit1_size]; omega)]
  exact evThen (sSealed (recBody e q h o) (by omega)) (f := fun _ t => some t) (fun k => rfl) (Ev.now _)
theorem sRLt (e q h : Int) (o : ByteArray) : Ev (fun k => spec_RecordLine.j0 k true e q h o) (⟨#[]⟩ : ByteArray) :=
  Ev.step (f := fun _ => some _) (fun k => by simp only [spec_RecordLine.j0, if_true]) (Ev.now _)
theorem sRL (e q h : Int) (o : ByteArray) : Ev (fun k => spec_RecordLine.f k e q h o) (recLineP e q h o) := by
  unfold spec_RecordLine.f recLineP
  simp only [sIn, Option.bind_some]
  by_cases c1 : 0 ≤ e ∧ e ≤ 999999999
  · simp only [show decide (0 ≤ e ∧ e ≤ 999999999) = true by simpa using c1, if_true]
    by_cases c2 : 0 ≤ q ∧ q ≤ 31
    · simp only [show decide (0 ≤ q ∧ q ≤ 31) = true by simpa using c2, if_true]
      by_cases c3 : 0 ≤ h ∧ h ≤ 255
      · simp only [show decide (0 ≤ h ∧ h ≤ 255) = true by simpa using c3, if_true]
        by_cases c4 : o.size = 32
        · rw [if_pos ⟨c1, c2, c3, c4⟩]
          simp only [show ((o.size : Int) != 32) = false by simp; omega]
          exact sRLj e q h o c3 c4
        · rw [if_neg (fun z => c4 z.2.2.2)]
          simp only [show ((o.size : Int) != 32) = true by simp; omega]
          exact sRLt e q h o
      · rw [if_neg (fun z => c3 z.2.2.1)]
        simp only [show decide (0 ≤ h ∧ h ≤ 255) = false by simpa using c3, Bool.false_eq_true, if_false]
        exact sRLt e q h o
    · rw [if_neg (fun z => c2 z.2.1)]
      simp only [show decide (0 ≤ q ∧ q ≤ 31) = false by simpa using c2, Bool.false_eq_true, if_false]
      exact sRLt e q h o
  · rw [if_neg (fun z => c1 z.1)]
    simp only [show decide (0 ≤ e ∧ e ≤ 999999999) = false by simpa using c1, Bool.false_eq_true, if_false]
    exact sRLt e q h o
theorem sRS2 (s : ByteArray) (h : s.size = 2) : spec_ReadShort.f s = some (bt s 0 * 256 + bt s 1, true) := by
  unfold spec_ReadShort.f
  have h0 := bt_range s 0
  have h1 := bt_range s 1
  rw [if_pos (by omega), if_pos (by omega), if_pos (by omega), w64 (n := bt s 0) (by omega) (by omega), w64 (n := bt s 1) (by omega) (by omega), w64 (n := bt s 0 * 256) (by omega) (by omega), w64 (by omega) (by omega)]
theorem sRR (s : ByteArray) : Ev (fun k => spec_ReadRecord.f k s) (readRecP s) := by
  by_cases h : s.size = 64
  · have hx : (s.extract 4 12).size = 8 := by rw [ByteArray.size_extract]; omega
    have hy : (s.extract 2 4).size = 2 := by rw [ByteArray.size_extract]; omega
    have hw : wordP (s.extract 4 12) 0 = wordP s 4 := by have := wordP_extract s 4 12 0 (by omega) (by omega) (by omega); simpa using this
    have b2 : bt (s.extract 2 4) 0 = bt s 2 := bt_ext0 s 2 4 0 (by omega) (by omega)
    have b3 : bt (s.extract 2 4) 1 = bt s 3 := bt_ext0 s 2 4 1 (by omega) (by omega)
    have r1 := bt_range s 1
    refine evThen (sRW8_ev (s.extract 4 12) hx) (f := fun k bt129 => ((spec_RecordLine.f k bt129.1 (bt s 1) (bt s 2 * 256 + bt s 3) (s.extract 12 44)).bind fun t131 => (if t131.toList = s.toList then (some (bt129.1, bt s 1, bt s 2 * 256 + bt s 3, s.extract 12 44, true)) else (some (0, 0, 0, (⟨#[]⟩ : ByteArray), false))))) (fun k => ?_) ?_
    · unfold spec_ReadRecord.f
      rw [if_pos (by omega), if_pos (by omega), if_pos (by omega), if_pos (by omega), if_pos (by omega), if_pos (by omega), sRS2 _ hy]
      simp only [Option.bind_some]
      rw [if_pos (by omega), if_pos (by omega), b2, b3, w64 (n := bt s 1) (by omega) (by omega)]
    · refine evThen (sRL _ _ _ _) (fun k => rfl) (evIs fun k => ?_)
      simp only [hw]
      unfold readRecP
      by_cases c : recLineP (wordP s 4) (bt s 1) (bt s 2 * 256 + bt s 3) (s.extract 12 44) = s
      · rw [if_pos (toList_inj.mpr c), if_pos ⟨h, c⟩]
      · rw [if_neg (fun z => c (toList_inj.mp z)), if_neg (fun z => c z.2)]
  · refine evIs fun k => ?_
    unfold spec_ReadRecord.f readRecP; rw [if_neg (by omega), if_neg (fun z => h z.1)]
/-- a half that may be logged -/
def halfP (a b h : Int) : Bool := decide (h = 4 ∨ h = 5 ∨ (2 * (4 + b) ≤ h ∧ h ≤ 2 * a - 1))
def logL (e a b : Int) (m : ByteArray) : Nat → Nat → List S83 → List S83 × Bool
  | 0, _, out => (out, true)
  | n + 1, i, out =>
    if (readRecP (lineP m (4 + i))).2.2.2.2 = true then
      if (readRecP (lineP m (4 + i))).1 < e then logL e a b m n (i + 1) out
      else if e < (readRecP (lineP m (4 + i))).1 then ([], false)
      else if (out.length : Int) = (i : Int) then
        if (readRecP (lineP m (4 + i))).2.1 = (i : Int) then
          if halfP a b (readRecP (lineP m (4 + i))).2.2.1 = true then
            (if out.any (fun x => x.f2 == (readRecP (lineP m (4 + i))).2.2.1) = true then ([], false)
            else logL e a b m n (i + 1) (out ++ [⟨(readRecP (lineP m (4 + i))).1, (readRecP (lineP m (4 + i))).2.1, (readRecP (lineP m (4 + i))).2.2.1, (readRecP (lineP m (4 + i))).2.2.2.1⟩]))
          else ([], false)
        else ([], false)
      else ([], false)
    else logL e a b m n (i + 1) out
/-- the current records of an image -/
def logP (a b c : Int) (T : List ByteArray) (m : ByteArray) : List S83 × Bool := if epochOfP a b c T m < 0 then ([], false) else logL (epochOfP a b c T m) a b m b.toNat 0 []
theorem logL_len (e a b : Int) (m : ByteArray) : ∀ (n i : Nat) (out : List S83), out.length ≤ i → (logL e a b m n i out).1.length ≤ n + i
  | 0, i, out, h => by rw [logL]; show out.length ≤ _; omega
  | n + 1, i, out, h => by
    have ih := logL_len e a b m n (i + 1) out (by omega)
    have ih2 := fun y => logL_len e a b m n (i + 1) (out ++ [y]) (by rw [List.length_append]; simp; omega)
    rw [logL]
    repeat' split
    all_goals first | omega | exact Nat.zero_le _ | (have := ih2 _; omega) | (refine Nat.le_trans (ih2 _) (by omega))
theorem ep_img {a b c : Int} {T : List ByteArray} {m : ByteArray} (h : ¬ epochOfP a b c T m < 0) : imgP a b c T m = true := by
  by_cases g : imgP a b c T m = true
  · exact g
  · exact absurd (by unfold epochOfP; rw [if_neg g]; decide) h
theorem logP_len (a b c : Int) (T : List ByteArray) (m : ByteArray) : (logP a b c T m).1.length ≤ 32 := by
  unfold logP
  by_cases g : epochOfP a b c T m < 0
  · rw [if_pos g]; exact Nat.zero_le _
  · rw [if_neg g]
    obtain ⟨h1, _⟩ := imgP_of (ep_img g)
    obtain ⟨hc, _⟩ := cfgP_of h1
    have := logL_len (epochOfP a b c T m) a b m b.toNat 0 [] (Nat.zero_le _)
    omega
theorem sHalf {a b : Int} (c : Int) (T : List ByteArray) (ha : 0 ≤ a ∧ a ≤ 128) (hb : 0 ≤ b ∧ b ≤ 32) (h : Int) : spec_l5Half.f a b c T h = some (halfP a b h) := by
  unfold spec_l5Half.f
  rw [w64 (n := 4 + b) (by omega) (by omega), w64 (n := 2 * (4 + b)) (by omega) (by omega), w64 (n := 2 * a) (by omega) (by omega), w64 (n := 2 * a - 1) (by omega) (by omega), sIn, Option.bind_some]
  unfold halfP
  by_cases h1 : h = 4
  · simp [h1]
  · by_cases h2 : h = 5
    · simp [h2]
    · simp [h1, h2]
theorem sPlace_l (l : List S83) (h : Int) (hl : l.length ≤ 1000000) : ∀ (n i : Nat), i + n = l.length → ∃ q, Ev (fun k => spec_l5Place.l0 k l h (i : Int)) q ∧ decide (q ≥ 0) = (l.drop i).any (fun x => x.f2 == h) := by
  intro n
  induction n with
  | zero =>
    intro i hi
    obtain rfl : i = l.length := by omega
    exact ⟨-1, evIs1 (fun k => by simp only [spec_l5Place.l0]; rw [if_neg (by omega)]), by rw [List.drop_length]; rfl⟩
  | succ n ih =>
    intro i hi
    have hlt : i < l.length := by omega
    have er : rd_T83 l (i : Int) = l[i] := by simp [rd_T83, List.getD, hlt]
    rw [List.drop_eq_getElem_cons hlt, List.any_cons]
    by_cases c : (l[i]).f2 = h
    · refine ⟨(i : Int), evIs1 (fun k => by simp only [spec_l5Place.l0]; rw [if_pos (by omega), if_pos (by omega), er, if_pos c]), ?_⟩
      rw [beq_iff_eq.mpr c, decide_eq_true (by omega)]; rfl
    · obtain ⟨q, e, hq⟩ := ih (i + 1) (by omega)
      refine ⟨q, Ev.step (f := fun k => spec_l5Place.l0 k l h ((i + 1 : Nat) : Int)) (fun k => ?_) e, ?_⟩
      · simp only [spec_l5Place.l0]
        rw [if_pos (by omega), if_pos (by omega), er, if_neg c, w64 (by omega) (by omega)]; rfl
      · rw [hq, beq_eq_false_iff_ne.mpr c, Bool.false_or]
theorem sPlace (l : List S83) (h : Int) (hl : l.length ≤ 1000000) : ∃ q, Ev (fun k => spec_l5Place.f k l h) q ∧ decide (q ≥ 0) = l.any (fun x => x.f2 == h) := sPlace_l l h hl l.length 0 (by omega)
theorem sLog_l (e a b c : Int) (T : List ByteArray) (m : ByteArray) (ha : 0 ≤ a ∧ a ≤ 128) (hb : 0 ≤ b ∧ b ≤ 32) (hm : (m.size : Int) = 64 * a) (hba : b ≤ a - 5) : ∀ (n i : Nat) (out : List S83), i + n = b.toNat → out.length ≤ i → Ev (fun k => spec_LogOf.l0 k m e out (i : Int) a b c T) (logL e a b m n i out) := by
  intro n
  induction n with
  | zero =>
    intro i out hi _
    exact evIs1 (fun k => by simp only [spec_LogOf.l0]; rw [if_neg (by omega)]; rfl)
  | succ n ih =>
    intro i out hi ho
    have h0 := ih (i + 1) out (by omega) (by omega)
    have w4 : wrap64 (4 + (i : Int)) = ((4 + i : Nat) : Int) := by rw [w64 (by omega) (by omega)]; omega
    have w1 : wrap64 ((i : Int) + 1) = ((i + 1 : Nat) : Int) := by rw [w64 (by omega) (by omega)]; omega
    have ln := sLine m (4 + i) (by omega) (by omega)
    have J2t : ∀ (q0 q1 q2 : Int) (q3 : ByteArray), Ev (fun k => spec_LogOf.j2 k m e out (i : Int) true a b c T q0 q1 q2 q3) (logL e a b m n (i + 1) out) := fun q0 q1 q2 q3 =>
      Ev.step (f := fun k => spec_LogOf.l0 k m e out ((i + 1 : Nat) : Int) a b c T) (fun k => by simp only [spec_LogOf.j2]; rw [if_pos trivial, w1]) h0
    refine Ev.step (f := fun k => (spec_ReadRecord.f k (lineP m (4 + i))).bind fun bt => (if bt.2.2.2.2 = true then (spec_LogOf.j1 k m e out (i : Int) bt.2.2.2.2 (decide (bt.1 > e)) a b c T bt.1 bt.2.1 bt.2.2.1 bt.2.2.2.1) else (spec_LogOf.j1 k m e out (i : Int) bt.2.2.2.2 false a b c T bt.1 bt.2.1 bt.2.2.1 bt.2.2.2.1))) (fun k => by simp only [spec_LogOf.l0]; rw [if_pos (by omega), w4, ln, Option.bind_some]) ?_
    refine evThen (sRR (lineP m (4 + i))) (fun k => rfl) ?_
    rw [logL]
    generalize readRecP (lineP m (4 + i)) = r
    by_cases c1 : r.2.2.2.2 = true
    · simp only [if_pos c1]
      by_cases c3 : e < r.1
      · rw [if_neg (show ¬ r.1 < e by omega), if_pos c3]
        exact evIs1 (fun k => by simp only [spec_LogOf.j1]; rw [decide_eq_true (show r.1 > e from c3), if_pos rfl])
      · by_cases c2 : r.1 < e
        · rw [if_pos c2]
          exact Ev.step (f := fun k => spec_LogOf.j2 k m e out (i : Int) true a b c T r.1 r.2.1 r.2.2.1 r.2.2.2.1) (fun k => by simp only [spec_LogOf.j1]; rw [decide_eq_false (show ¬ r.1 > e by omega), if_neg (by decide), if_pos c1, bne_iff_ne.mpr (show r.1 ≠ e by omega)]) (J2t _ _ _ _)
        · rw [if_neg c2, if_neg c3]
          refine Ev.step (f := fun k => spec_LogOf.j2 k m e out (i : Int) false a b c T r.1 r.2.1 r.2.2.1 r.2.2.2.1) (fun k => by simp only [spec_LogOf.j1]; rw [decide_eq_false (show ¬ r.1 > e by omega), if_neg (by decide), if_pos c1, bne_eq_false_iff_eq.mpr (show r.1 = e by omega)]) ?_
          by_cases c4 : (out.length : Int) = (i : Int)
          · rw [if_pos c4]
            by_cases c5 : r.2.1 = (i : Int)
            · rw [if_pos c5]
              obtain ⟨q, hq, hqa⟩ := sPlace out r.2.2.1 (by omega)
              refine Ev.step (f := fun k => if halfP a b r.2.2.1 = true then ((spec_l5Place.f k out r.2.2.1).bind fun t197 => (if t197 ≥ 0 then (some (([] : List S83), false)) else (if out.length < 3518437208883 then (spec_LogOf.l0 k m e (out ++ [(⟨r.1, r.2.1, r.2.2.1, r.2.2.2.1⟩ : S83)]) ((i + 1 : Nat) : Int) a b c T) else (none)))) else (some (([] : List S83), false))) (fun k => by simp only [spec_LogOf.j2]; rw [if_neg (by decide), if_pos c4.symm, if_pos c5, sHalf c T ha hb, Option.bind_some, w1]) ?_
              by_cases c6 : halfP a b r.2.2.1 = true
              · simp only [if_pos c6]
                refine evThen hq (fun k => rfl) ?_
                by_cases c7 : out.any (fun x => x.f2 == r.2.2.1) = true
                · rw [if_pos c7]
                  rw [c7, decide_eq_true_eq] at hqa
                  exact evIs (fun k => by rw [if_pos hqa])
                · rw [if_neg c7]
                  rw [Bool.eq_false_iff.2 c7, decide_eq_false_iff_not] at hqa
                  exact Ev.congr (fun k => by rw [if_neg hqa, if_pos (by omega)]) (ih (i + 1) _ (by omega) (by rw [List.length_append]; simp; omega))
              · simp only [if_neg c6]; exact Ev.now _
            · rw [if_neg c5]
              exact evIs1 (fun k => by simp only [spec_LogOf.j2]; rw [if_neg (by decide), if_pos c4.symm, if_neg c5])
          · rw [if_neg c4]
            exact evIs1 (fun k => by simp only [spec_LogOf.j2]; rw [if_neg (by decide), if_neg (fun h => c4 h.symm)])
    · simp only [if_neg c1]
      exact Ev.step (f := fun k => spec_LogOf.j2 k m e out (i : Int) true a b c T r.1 r.2.1 r.2.2.1 r.2.2.2.1) (fun k => by simp only [spec_LogOf.j1]; rw [if_neg (by decide), if_neg c1]) (J2t _ _ _ _)
theorem sLO (a b c : Int) (T : List ByteArray) (m : ByteArray) (hl : T.length ≤ 1048576) (hs : ∀ s ∈ T, s.size ≤ 9223372036854775807) (hz : m.size ≤ 1048576) : Ev (fun k => spec_LogOf.f k a b c T m) (logP a b c T m) := by
  refine evThen (sEO a b c T m hl hs hz) (fun k => rfl) ?_
  unfold logP
  by_cases g : epochOfP a b c T m < 0
  · simp only [if_pos g]; exact Ev.now _
  · obtain ⟨h1, h2⟩ := imgP_of (ep_img g)
    obtain ⟨hc, _⟩ := cfgP_of h1
    simp only [if_neg g]
    exact sLog_l _ a b c T m (by omega) (by omega) h2 (by omega) b.toNat 0 [] (by omega) (Nat.zero_le _)
theorem iIn (a b c : Int) : impl_within.f a b c = some (decide (b ≤ a ∧ a ≤ c)) := by
  unfold impl_within.f
  by_cases h : a ≥ b
  · rw [if_pos h]; congr 1; rw [decide_eq_decide]; omega
  · rw [if_neg h]; congr 1; symm; rw [decide_eq_false_iff_not]; omega
theorem iCfg (a b c : Int) (l : List ByteArray) : impl_ConfigOk.f a b c l = some (cfgP a b c l) := by
  unfold impl_ConfigOk.f cfgP
  rw [iIn, Option.bind_some]
  by_cases c1 : 8 ≤ a ∧ a ≤ 128
  · have hm : mn 32 (wrap64 (a - 5)) = mn 32 (a - 5) := by rw [w64 (by omega) (by omega)]
    rw [decide_eq_true c1, if_pos rfl, hm, iIn, Option.bind_some]
    by_cases c2 : 1 ≤ b ∧ b ≤ mn 32 (a - 5)
    · rw [decide_eq_true c2, if_pos rfl, iIn, Option.bind_some]
      have c2' : (1 ≤ b ∧ b ≤ 32) ∧ b ≤ a - 5 := by unfold mn at c2; split at c2 <;> omega
      by_cases c4 : 2 ≤ c ∧ c ≤ 400
      · rw [decide_eq_true c4, if_pos rfl, show cfgB a b c = true from decide_eq_true ⟨c1, c2'.1, c2'.2, c4⟩, Bool.true_and]; rfl
      · rw [decide_eq_false c4, if_neg (by decide), cfgB_no (fun h => c4 h.2.2.2)]; rfl
    · rw [decide_eq_false c2, if_neg (by decide), cfgB_no (fun h => c2 (by unfold mn; split <;> omega))]; rfl
  · rw [decide_eq_false c1, if_neg (by decide), cfgB_no (fun h => c1 h.1)]; rfl
theorem iZeros (n : Nat) (h : n ≤ 140737488355328) : impl_zeros.f (n : Int) = some (zs n) := by
  unfold impl_zeros.f; rw [if_pos (by omega), if_pos (by omega)]; rfl
theorem iBB4 (k : Nat) (x : Int) : impl_bigBytes.f (k + 5) x 4 = some (strOfNums (four x)) := by
  unfold impl_bigBytes.f
  simp (config := {maxSteps := 1000000}) [impl_bigBytes.l0, wrap64, List.replicate, four, Int.ediv_ediv]
theorem iBB8 (k : Nat) (x : Int) : impl_bigBytes.f (k + 9) x 8 = some (strOfNums (wbx x)) := by
  unfold impl_bigBytes.f
  simp (config := {maxSteps := 1000000}) [impl_bigBytes.l0, wrap64, List.replicate, wbx, Int.ediv_ediv]
theorem iCrc_in (s : ByteArray) (x10 x11 : Int) (r : ByteArray) : ∀ (d j c : Nat), j + d = 8 → c < 4294967296 → Ev (fun k => impl_Crc.l0 k s (crcBits d c : Nat) x10 (wrap64 (x11 + 1))) r → Ev (fun k => impl_Crc.l1 k s (c : Nat) x10 x11 j) r := by
  intro d
  induction d with
  | zero =>
    intro j c hj hc h
    refine Ev.step (f := fun k => impl_Crc.l0 k s (c : Nat) x10 (wrap64 (x11 + 1))) (fun k => ?_) h
    simp only [impl_Crc.l1]; rw [if_neg (by omega)]
  | succ d ih =>
    intro j c hj hc h
    refine Ev.step (f := fun k => impl_Crc.l1 k s (crcBit c : Nat) x10 x11 ((j + 1 : Nat) : Int)) (fun k => ?_) (ih (j + 1) (crcBit c) (by omega) (crcBit_lt hc) h)
    simp only [impl_Crc.l1]; rw [if_pos (by omega), w64 (n := (j : Int) + 1) (by omega) (by omega), and1 c hc]
    have e2 : ((c : Int) / 2) = ((c / 2 : Nat) : Int) := by omega
    rw [e2]
    unfold crcBit
    by_cases h1 : c % 2 = 1
    · rw [if_pos (by omega), if_pos h1, show (3988292384 : Int) = ((3988292384 : Nat) : Int) from rfl, xorN _ _ (by omega) (by omega)]; rfl
    · rw [if_neg (by omega), if_neg h1]; rfl
theorem iCrc_out (s : ByteArray) (hs : s.size ≤ 4611686018427387904) : ∀ (d i : Nat), i + d = s.size → Ev (fun k => impl_Crc.l0 k s (crcAt s i : Nat) s.size i) (crcStr s) := by
  intro d
  induction d with
  | zero =>
    intro i hi
    obtain rfl : i = s.size := by omega
    refine Ev.step (f := fun k => (impl_bigBytes.f k (crcNum s : Nat) 4).bind fun t => some t) (fun k => ?_) ?_
    · simp only [impl_Crc.l0]; rw [if_neg (by omega), show (4294967295 : Int) = ((4294967295 : Nat) : Int) from rfl, xorN _ _ (by omega) (crcAt_lt s _), u64]
      have := crcNum_lt s
      rw [show ((4294967295 ^^^ crcAt s s.size : Nat) : Int) % 18446744073709551616 = (crcNum s : Nat) by unfold crcNum at *; omega]
    · refine ⟨5, fun k hk => ?_⟩
      obtain ⟨m, rfl⟩ : ∃ m, k = m + 5 := ⟨k - 5, by omega⟩
      show (impl_bigBytes.f (m + 5) (crcNum s : Nat) 4).bind _ = _
      rw [iBB4]; rfl
  | succ d ih =>
    intro i hi
    have hb := btN_le s i
    refine Ev.step (f := fun k => impl_Crc.l1 k s ((crcAt s i ^^^ btN s i : Nat) : Int) s.size i ((0 : Nat) : Int)) (fun k => ?_) ?_
    · simp only [impl_Crc.l0]; rw [if_pos (by omega), if_pos (by omega), if_pos (by omega), ← btN_cast, show ((btN s i : Nat) : Int) % 4294967296 = (btN s i : Nat) by omega, xorN _ _ (crcAt_lt s i) (by omega)]; rfl
    · refine iCrc_in s s.size i _ 8 0 _ rfl (xor_lt _ _ (crcAt_lt s i) (by omega)) ?_
      have := ih (i + 1) (by omega)
      rw [w64 (n := (i : Int) + 1) (by omega) (by omega)]
      exact this
theorem iCrc (s : ByteArray) (hs : s.size ≤ 20000) : Ev (fun k => impl_Crc.f k s) (crcStr s) := by
  refine Ev.congr (fun k => ?_) (iCrc_out s (by omega) s.size 0 (by omega))
  unfold impl_Crc.f; rw [if_neg (by omega)]; rfl
theorem iSealed (s : ByteArray) (hs : s.size ≤ 4611686018427387904) : Ev (fun k => impl_Sealed.f k s) (sealedP s) := by
  by_cases h : (s.size : Int) > 60
  · refine evIs fun k => ?_
    unfold impl_Sealed.f sealedP; rw [if_pos h, if_pos (by omega)]
  · have hz := pad_size s (by omega)
    have e : ∀ k, impl_Sealed.f k s = (impl_Crc.f k (pad s)).bind fun t => (if (pad s).size + t.size ≤ 9223372036854775807 then some (pad s ++ t) else none) := by
      intro k
      unfold impl_Sealed.f
      rw [if_neg h, w64 (by omega) (by omega), show (60 : Int) - (s.size : Int) = ((60 - s.size : Nat) : Int) by omega, iZeros _ (by omega)]
      simp only [Option.bind_some]
      rw [if_pos (by rw [zs_size]; omega)]; rfl
    refine evThen (iCrc (pad s) (by omega)) e (evIs fun k => ?_)
    rw [if_pos (by rw [hz, crcStr_size]; omega)]
    unfold sealedP; rw [if_neg (by omega)]
theorem iWB (k : Nat) (a0 : Int) : impl_WordBytes.f (k + 9) a0 = some (wb a0) := by
  unfold impl_WordBytes.f
  rw [iBB8]; simp [u64, wb]
theorem iWB_ev (a0 : Int) : Ev (fun k => impl_WordBytes.f k a0) (wb a0) := ⟨9, fun k hk => by
  obtain ⟨m, rfl⟩ : ∃ m, k = m + 9 := ⟨k - 9, by omega⟩
  exact iWB m a0⟩
theorem iEL (e : Int) : Ev (fun k => impl_EpochLine.f k e) (epochLineP e) := by
  unfold impl_EpochLine.f
  simp only [iIn, Option.bind_some]
  by_cases h : 0 ≤ e ∧ e ≤ 1000000000
  · simp only [show decide (0 ≤ e ∧ e ≤ 1000000000) = true by simpa using h, if_true]
    refine evThen (iWB_ev e) (fun k => rfl) (evThen (iSealed (wb e) (by rw [wb_size]; omega)) (f := fun _ t => some t) (fun k => rfl) (evIs fun k => ?_))
    unfold epochLineP; rw [if_pos h]
  · simp only [show decide (0 ≤ e ∧ e ≤ 1000000000) = false by simpa using h, Bool.false_eq_true, if_false]
    refine evIs fun k => ?_
    unfold epochLineP; rw [if_neg h]
theorem iUns (s : ByteArray) : Ev (fun k => impl_Unsealed.f k s) (unsP s) := by
  by_cases h : s.size = 64
  · have hx : (s.extract 0 60).size = 60 := by rw [ByteArray.size_extract]; omega
    refine evThen (iCrc (s.extract 0 60) (by omega)) (f := fun _ t110 => if t110.toList = (s.extract 60 s.size).toList then (some (s.extract 0 60, true)) else (some ((⟨#[]⟩ : ByteArray), false))) (fun k => ?_) (evIs fun k => ?_)
    · unfold impl_Unsealed.f; rw [if_pos (by omega), if_pos (by omega), if_pos (by omega)]
    · unfold unsP
      by_cases c : crcStr (s.extract 0 60) = s.extract 60 s.size
      · rw [if_pos (toList_inj.mpr c), if_pos ⟨h, c⟩]
      · rw [if_neg (fun z => c (toList_inj.mp z)), if_neg (fun z => c z.2)]
  · refine evIs fun k => ?_
    unfold impl_Unsealed.f unsP; rw [if_neg (by omega), if_neg (fun z => h z.1)]
theorem iWl (s : ByteArray) (at_ : Int) (h0 : 0 ≤ at_) (hs : at_ + 8 ≤ (s.size : Int)) (hm : (s.size : Int) ≤ 9223372036854775807) (d : Nat) : ∀ (k j : Nat), j + d = 8 → d < k → impl_wordAt.l0 k s at_ (wrap64 (hn s at_ j)) j = some (wordP s at_) := by
  induction d with
  | zero =>
    intro k j hj hk
    obtain ⟨k, rfl⟩ : ∃ m, k = m + 1 := ⟨k - 1, by omega⟩
    obtain rfl : j = 8 := by omega
    simp only [impl_wordAt.l0]; rw [if_neg (by omega)]; rfl
  | succ d ih =>
    intro k j hj hk
    obtain ⟨k, rfl⟩ : ∃ m, k = m + 1 := ⟨k - 1, by omega⟩
    have hb := bt_range s (at_ + j)
    simp only [impl_wordAt.l0]; rw [w64 (n := at_ + (j : Int)) (by omega) (by omega), if_pos (by omega), if_pos (by omega), if_pos (by omega), w64 (n := (j : Int) + 1) (by omega) (by omega), w64 (n := bt s (at_ + j)) (by omega) (by omega)]
    have e : Go.bits .or .i64 (wrap64 (wrap64 (hn s at_ j) * 256)) (bt s (at_ + j)) = wrap64 (hn s at_ (j + 1)) := by
      rw [orW _ _ hb.1 hb.2]
      simp only [hn]; unfold wrap64; omega
    rw [e]; exact ih k (j + 1) (by omega) (by omega)
theorem iWA (k : Nat) (s : ByteArray) (at_ : Int) (h0 : 0 ≤ at_) (hs : at_ + 8 ≤ (s.size : Int)) (hm : (s.size : Int) ≤ 9223372036854775807) : impl_wordAt.f (k + 9) s at_ = some (wordP s at_) := by
  have e := iWl s at_ h0 hs hm 8 (k + 9) 0 (by omega) (by omega)
  simp only [hn, show ((0 : Nat) : Int) = 0 from rfl, w64 (n := 0) (by omega) (by omega)] at e
  exact e
theorem iWA_ev (s : ByteArray) (at_ : Int) (h0 : 0 ≤ at_) (hs : at_ + 8 ≤ (s.size : Int)) (hm : (s.size : Int) ≤ 9223372036854775807) : Ev (fun k => impl_wordAt.f k s at_) (wordP s at_) := ⟨9, fun k hk => by
  obtain ⟨m, rfl⟩ : ∃ m, k = m + 9 := ⟨k - 9, by omega⟩
  exact iWA m s at_ h0 hs hm⟩
theorem iRE (s : ByteArray) : Ev (fun k => impl_ReadEpoch.f k s) (readEpochP s) := by
  refine evThen (iUns s) (f := fun k bt131 => (if bt131.2 = true then ((impl_wordAt.f k bt131.1 0).bind fun t133 => ((impl_within.f t133 0 1000000000).bind fun t134 => (if t134 = true then ((impl_EpochLine.f k t133).bind fun t135 => (if t135.toList = s.toList then (some (t133, true)) else (some (0, false)))) else (some (0, false))))) else (some (0, false)))) (fun k => rfl) ?_
  unfold unsP
  by_cases c : s.size = 64 ∧ crcStr (s.extract 0 60) = s.extract 60 s.size
  · simp only [if_pos c, if_true]
    have hx : (s.extract 0 60).size = 60 := by rw [ByteArray.size_extract]; omega
    have hw : wordP (s.extract 0 60) 0 = wordP s 0 := by have := wordP_extract s 0 60 0 (by omega) (by omega) (by omega); simpa using this
    refine evThen (iWA_ev (s.extract 0 60) 0 (by omega) (by omega) (by omega)) (fun k => rfl) ?_
    simp only [hw, iIn, Option.bind_some]
    by_cases h : 0 ≤ wordP s 0 ∧ wordP s 0 ≤ 1000000000
    · simp only [show decide (0 ≤ wordP s 0 ∧ wordP s 0 ≤ 1000000000) = true by simpa using h, if_true]
      refine evThen (iEL _) (fun k => rfl) (evIs fun k => ?_)
      unfold readEpochP
      by_cases c2 : epochLineP (wordP s 0) = s
      · rw [if_pos (toList_inj.mpr c2), if_pos ⟨c.1, c2⟩]
      · rw [if_neg (fun z => c2 (toList_inj.mp z)), if_neg (fun z => c2 z.2)]
    · simp only [show decide (0 ≤ wordP s 0 ∧ wordP s 0 ≤ 1000000000) = false by simpa using h, Bool.false_eq_true, if_false]
      refine evIs fun k => ?_
      have hz : (epochLineP (wordP s 0)).size = 0 := by unfold epochLineP; rw [if_neg h]; rfl
      unfold readEpochP; rw [if_neg (fun z => by rw [z.2] at hz; omega)]
  · simp only [if_neg c, Bool.false_eq_true, if_false]
    refine evIs fun k => ?_
    unfold readEpochP; rw [if_neg (fun z => ?_)]
    by_cases h : 0 ≤ wordP s 0 ∧ wordP s 0 ≤ 1000000000
    · have e : sealedP (wb (wordP s 0)) = s := by have := z.2; unfold epochLineP at this; rwa [if_pos h] at this
      have u := uns_sealed (wb (wordP s 0)) (by rw [wb_size]; omega)
      rw [e] at u; unfold unsP at u; rw [if_neg c] at u; cases u
    · have hz : (epochLineP (wordP s 0)).size = 0 := by unfold epochLineP; rw [if_neg h]; rfl
      rw [z.2] at hz; omega
theorem iImg (a b c : Int) (l : List ByteArray) (s : ByteArray) : impl_isImage.f a b c l s = some (imgP a b c l s) := by
  unfold impl_isImage.f imgP
  rw [iCfg, Option.bind_some]
  by_cases h : cfgP a b c l = true
  · rw [if_pos h, img_eq s h, h, Bool.true_and]
  · rw [if_neg h, Bool.eq_false_iff.2 h, Bool.false_and]
theorem iLine (s : ByteArray) (n : Nat) (h : 64 * n + 64 ≤ s.size) (hs : s.size ≤ 1048576) : impl_lineOf.f s (n : Int) = some (lineP s n) := by
  unfold impl_lineOf.f lineP
  rw [w64 (n := 64 * (n : Int)) (by omega) (by omega), w64 (n := 64 * (n : Int) + 64) (by omega) (by omega), if_pos (by omega), if_pos (by omega), if_pos (by omega)]
  congr 2 <;> omega
theorem iEO (a b c : Int) (l : List ByteArray) (s : ByteArray) (hz : s.size ≤ 1048576) : Ev (fun k => impl_EpochOf.f k a b c l s) (epochOfP a b c l s) := by
  refine Ev.congr (fun k => by unfold impl_EpochOf.f; rw [iImg, Option.bind_some]) ?_
  unfold epochOfP
  by_cases h : imgP a b c l s = true
  · obtain ⟨h1, h2⟩ := imgP_of h
    obtain ⟨hc, _⟩ := cfgP_of h1
    simp only [if_pos h]
    refine Ev.congr (fun k => by rw [show (1 : Int) = ((1 : Nat) : Int) from rfl, iLine s 1 (by omega) hz, Option.bind_some]) (evThen (iRE _) (fun k => rfl) (evIs fun k => ?_))
    split <;> rfl
  · simp only [if_neg h]; exact evIs fun k => rfl
theorem iSB (n : Int) : impl_ShortBytes.f n = some (sb n) := by
  unfold impl_ShortBytes.f
  rw [iIn]; simp only [Option.bind_some, sb]
  by_cases h : 0 ≤ n ∧ n ≤ 65535
  · rw [if_pos (by simpa using h), if_pos h]
  · rw [if_neg (by simpa using h), if_neg h]
theorem iRLj (e q h : Int) (o : ByteArray) (hh : 0 ≤ h ∧ h ≤ 255) (ho : o.size = 32) : Ev (fun k => impl_RecordLine.j0 k false e q h o) (sealedP (recBody e q h o)) := by
  have z1 := one_size (q % 256)
  have z2 := (rs_sb h ⟨hh.1, by omega⟩).1
  have z3 := wb_size e
  have z4 := recBody_size e q h o (by omega)
  refine Ev.step (f := fun k => _) (fun k => by simp (implicitDefEqProofs := false) only [impl_RecordLine.j0, Bool.false_eq_true, if_false, Option.bind_some]; rfl) ?_
  simp only [if_pos (show 1 + (strOfNums [q % 256]).size ≤ 9223372036854775807 by omega)]
  simp only [iSB, Option.bind_some]
  simp only [if_pos (show ((⟨#[85]⟩ : ByteArray) ++ strOfNums [q % 256]).size + (sb h).size ≤ 9223372036854775807 by rw [ByteArray.size_append, lit1_size]; omega)]
  refine evThen (iWB_ev e) (fun k => rfl) ?_
  simp only [if_pos (show (((⟨#[85]⟩ : ByteArray) ++ strOfNums [q % 256]) ++ sb h).size + (wb e).size ≤ 9223372036854775807 by rw [ByteArray.size_append, ByteArray.size_append, lit1_size]; omega), if_pos (show ((((⟨#[85]⟩ : ByteArray) ++ strOfNums [q % 256]) ++ sb h) ++ wb e).size + o.size ≤ 9223372036854775807 by rw [ByteArray.size_append, ByteArray.size_append, ByteArray.size_append, lit1_size]; omega)]
  exact evThen (iSealed (recBody e q h o) (by omega)) (f := fun _ t => some t) (fun k => rfl) (Ev.now _)
theorem iRLt (e q h : Int) (o : ByteArray) : Ev (fun k => impl_RecordLine.j0 k true e q h o) (⟨#[]⟩ : ByteArray) :=
  Ev.step (f := fun _ => some _) (fun k => by simp only [impl_RecordLine.j0, if_true]) (Ev.now _)
theorem iRL (e q h : Int) (o : ByteArray) : Ev (fun k => impl_RecordLine.f k e q h o) (recLineP e q h o) := by
  unfold impl_RecordLine.f recLineP
  simp only [iIn, Option.bind_some]
  by_cases c1 : 0 ≤ e ∧ e ≤ 999999999
  · simp only [show decide (0 ≤ e ∧ e ≤ 999999999) = true by simpa using c1, if_true]
    by_cases c2 : 0 ≤ q ∧ q ≤ 31
    · simp only [show decide (0 ≤ q ∧ q ≤ 31) = true by simpa using c2, if_true]
      by_cases c3 : 0 ≤ h ∧ h ≤ 255
      · simp only [show decide (0 ≤ h ∧ h ≤ 255) = true by simpa using c3, if_true]
        by_cases c4 : o.size = 32
        · rw [if_pos ⟨c1, c2, c3, c4⟩]
          simp only [show ((o.size : Int) != 32) = false by simp; omega]
          exact iRLj e q h o c3 c4
        · rw [if_neg (fun z => c4 z.2.2.2)]
          simp only [show ((o.size : Int) != 32) = true by simp; omega]
          exact iRLt e q h o
      · rw [if_neg (fun z => c3 z.2.2.1)]
        simp only [show decide (0 ≤ h ∧ h ≤ 255) = false by simpa using c3, Bool.false_eq_true, if_false]
        exact iRLt e q h o
    · rw [if_neg (fun z => c2 z.2.1)]
      simp only [show decide (0 ≤ q ∧ q ≤ 31) = false by simpa using c2, Bool.false_eq_true, if_false]
      exact iRLt e q h o
  · rw [if_neg (fun z => c1 z.1)]
    simp only [show decide (0 ≤ e ∧ e ≤ 999999999) = false by simpa using c1, Bool.false_eq_true, if_false]
    exact iRLt e q h o
def rs (s : ByteArray) : Int × Bool := if s.size = 2 then (bt s 0 * 256 + bt s 1, true) else (0, false)
theorem iRS (s : ByteArray) : impl_ReadShort.f s = some (rs s) := by
  unfold impl_ReadShort.f rs
  have h0 := bt_range s 0
  have h1 := bt_range s 1
  by_cases h : s.size = 2
  · rw [if_pos (by omega), if_pos (by omega), if_pos (by omega), if_pos h, w64 (n := bt s 0) (by omega) (by omega), w64 (n := bt s 1) (by omega) (by omega), w64 (by omega) (by omega), or8 _ _ h0.1 h0.2 h1.1 h1.2]
  · rw [if_neg (by omega), if_neg h]
theorem iRR (s : ByteArray) : Ev (fun k => impl_ReadRecord.f k s) (readRecP s) := by
  refine evThen (iUns s) (fun k => rfl) ?_
  unfold unsP
  by_cases c : s.size = 64 ∧ crcStr (s.extract 0 60) = s.extract 60 s.size
  · simp only [if_pos c, if_true]
    have hz : (s.extract 0 60).size = 60 := by rw [ByteArray.size_extract]; omega
    have hy : (s.extract 2 4).size = 2 := by rw [ByteArray.size_extract]; omega
    have x1 : (s.extract 0 60).extract 2 4 = s.extract 2 4 := by have := extract_extract s 0 60 2 4 (by omega); simpa using this
    have x2 : (s.extract 0 60).extract 12 44 = s.extract 12 44 := by have := extract_extract s 0 60 12 44 (by omega); simpa using this
    have hw : wordP (s.extract 0 60) 4 = wordP s 4 := by have := wordP_extract s 0 60 4 (by omega) (by omega) (by omega); simpa using this
    have b1 : bt (s.extract 0 60) 1 = bt s 1 := bt_ext0 s 0 60 1 (by omega) (by omega)
    have b2 : bt (s.extract 2 4) 0 = bt s 2 := bt_ext0 s 2 4 0 (by omega) (by omega)
    have b3 : bt (s.extract 2 4) 1 = bt s 3 := bt_ext0 s 2 4 1 (by omega) (by omega)
    have r1 := bt_range s 1
    have hrs : rs (s.extract 2 4) = (bt s 2 * 256 + bt s 3, true) := by unfold rs; rw [if_pos hy, b2, b3]
    simp only [if_pos (show 1 < ((s.extract 0 60).size : Int) by omega)]
    refine evThen (iWA_ev (s.extract 0 60) 4 (by omega) (by omega) (by omega)) (fun k => rfl) ?_
    simp only [if_pos (show (12 : Nat) ≤ 44 by omega), if_pos (show (44 : Int) ≤ ((s.extract 0 60).size : Int) by omega), if_pos (show (2 : Nat) ≤ 4 by omega), if_pos (show (4 : Int) ≤ ((s.extract 0 60).size : Int) by omega), x1, x2, iRS, hrs, hw, b1, Option.bind_some, w64 (n := bt s 1) (by omega) (by omega)]
    refine evThen (iRL _ _ _ _) (fun k => rfl) (evIs fun k => ?_)
    unfold readRecP
    by_cases c2 : recLineP (wordP s 4) (bt s 1) (bt s 2 * 256 + bt s 3) (s.extract 12 44) = s
    · rw [if_pos (toList_inj.mpr c2), if_pos ⟨c.1, c2⟩]
    · rw [if_neg (fun z => c2 (toList_inj.mp z)), if_neg (fun z => c2 z.2)]
  · simp only [if_neg c, Bool.false_eq_true, if_false]
    refine evIs fun k => ?_
    unfold readRecP; rw [if_neg (fun z => ?_)]
    have e := z.2
    unfold recLineP at e
    split at e
    · rename_i hc
      have u := uns_sealed (recBody (wordP s 4) (bt s 1) (bt s 2 * 256 + bt s 3) (s.extract 12 44)) (by rw [recBody_size _ _ _ _ (by omega)]; omega)
      rw [e] at u; unfold unsP at u; rw [if_neg c] at u; cases u
    · have := congrArg ByteArray.size e; rw [z.1] at this; simp [ByteArray.size] at this
theorem iHalf {a b : Int} (c : Int) (T : List ByteArray) (ha : 0 ≤ a ∧ a ≤ 128) (hb : 0 ≤ b ∧ b ≤ 32) (h : Int) : impl_canLog.f a b c T h = some (halfP a b h) := by
  unfold impl_canLog.f
  rw [w64 (n := 4 + b) (by omega) (by omega), w64 (n := 2 * (4 + b)) (by omega) (by omega), w64 (n := 2 * a) (by omega) (by omega), w64 (n := 2 * a - 1) (by omega) (by omega)]
  unfold halfP impl_within.f
  by_cases h1 : h ≥ 4 <;> by_cases h2 : h ≤ 5 <;> by_cases h3 : h ≥ 2 * (4 + b) <;> by_cases h4 : h ≤ 2 * a - 1 <;> simp [h1, h2, h3, h4] <;> omega
theorem iLog_l (k0 : Nat) (e a b c : Int) (T : List ByteArray) (m : ByteArray) (ha : 0 ≤ a ∧ a ≤ 128) (hb : 0 ≤ b ∧ b ≤ 32) (hm : (m.size : Int) = 64 * a) (hba : b ≤ a - 5) : ∀ (n i : Nat) (out : List S83), i + n = b.toNat → Ev (fun k => impl_LogOf.l k e a b c T m n i out) (logL e a b m n i out) := by
  intro n
  induction n with
  | zero => intro i out _; exact Ev.now _
  | succ n ih =>
    intro i out hi
    have h0 := ih (i + 1) out (by omega)
    have ln := iLine m (4 + i) (by omega) (by omega)
    rw [show ((4 + i : Nat) : Int) = 4 + (i : Int) by omega] at ln
    refine Ev.congr (fun k => by rw [impl_LogOf.l, ln, Option.bind_some]) ?_
    refine evThen (iRR (lineP m (4 + i))) (fun k => rfl) ?_
    rw [logL]
    by_cases c1 : (readRecP (lineP m (4 + i))).2.2.2.2 = true
    · simp only [if_pos c1]
      by_cases c2 : (readRecP (lineP m (4 + i))).1 < e
      · simp only [if_pos c2]; exact h0
      · simp only [if_neg c2]
        by_cases c3 : e < (readRecP (lineP m (4 + i))).1
        · simp only [if_pos c3]; exact Ev.now _
        · simp only [if_neg c3]
          by_cases c4 : (out.length : Int) = (i : Int)
          · simp only [if_pos c4]
            by_cases c5 : (readRecP (lineP m (4 + i))).2.1 = (i : Int)
            · simp only [if_pos c5, iHalf c T ha hb, Option.bind_some]
              by_cases c6 : halfP a b (readRecP (lineP m (4 + i))).2.2.1 = true
              · simp only [if_pos c6]
                by_cases c7 : out.any (fun x => x.f2 == (readRecP (lineP m (4 + i))).2.2.1) = true
                · simp only [if_pos c7]; exact Ev.now _
                · simp only [if_neg c7]; rw [c5]; exact ih (i + 1) _ (by omega)
              · simp only [if_neg c6]; exact Ev.now _
            · simp only [if_neg c5]; exact Ev.now _
          · simp only [if_neg c4]; exact Ev.now _
    · simp only [if_neg c1]; exact h0
theorem iLO (a b c : Int) (T : List ByteArray) (m : ByteArray) (hz : m.size ≤ 1048576) : Ev (fun k => impl_LogOf.f k a b c T m) (logP a b c T m) := by
  refine evThen (iEO a b c T m hz) (fun k => rfl) ?_
  unfold logP
  by_cases g : epochOfP a b c T m < 0
  · simp only [if_pos g]; exact Ev.now _
  · obtain ⟨h1, h2⟩ := imgP_of (ep_img g)
    obtain ⟨hc, _⟩ := cfgP_of h1
    simp only [if_neg g, if_pos (show b ≤ 500 by omega)]
    exact iLog_l 0 _ a b c T m (by omega) (by omega) h2 (by omega) b.toNat 0 [] (by omega)
theorem eqRecs_l (l : List S83) (hl : l.length ≤ 1000000) : ∀ (n i : Nat), i + n = l.length → Ev (fun k => laws_eqRecordS.l0 k l l (i : Int)) true := by
  intro n
  induction n with
  | zero =>
    intro i hi
    exact evIs1 (fun k => by simp only [laws_eqRecordS.l0]; rw [if_neg (by omega)])
  | succ n ih =>
    intro i hi
    refine Ev.step (f := fun k => laws_eqRecordS.l0 k l l ((i + 1 : Nat) : Int)) (fun k => ?_) (ih (i + 1) (by omega))
    simp only [laws_eqRecordS.l0]
    rw [if_pos (by omega), if_pos (by omega), if_pos (by omega)]
    unfold laws_eqRecord.f
    rw [if_pos rfl, if_pos rfl, if_pos rfl, if_pos rfl, Option.bind_some, if_pos rfl, w64 (by omega) (by omega)]
    rfl
theorem eqRecs_refl (l : List S83) (hl : l.length ≤ 1000000) : Ev (fun k => laws_eqRecordS.f k l l) true :=
  Ev.congr (fun k => by unfold laws_eqRecordS.f; rw [if_pos rfl]; rfl) (eqRecs_l l hl l.length 0 (by omega))
noncomputable def mT (a : Int) : ByteArray := open Classical in if h : a ≤ 1000000000 then Classical.choose (markText_ev a h) else (⟨#[]⟩ : ByteArray)
theorem mT_ev (a : Int) (h : a ≤ 1000000000) : Ev (fun k => laws_markText.f k a) (mT a) := by
  unfold mT; rw [dif_pos h]; exact Classical.choose_spec (markText_ev a h)
noncomputable def mR : Nat → Int → List S83
  | 0, _ => []
  | n + 1, a => ⟨a, a + 1, a + 2, mT (a + 3)⟩ :: mR n (a + 4)
theorem mR_len : ∀ n a, (mR n a).length = n
  | 0, _ => rfl
  | n + 1, a => by simp [mR, mR_len n]
theorem mR_succ : ∀ (n : Nat) (a : Int), mR (n + 1) a = mR n a ++ [⟨a + 4 * n, a + 4 * n + 1, a + 4 * n + 2, mT (a + 4 * n + 3)⟩]
  | 0, a => by simp [mR]
  | n + 1, a => by
    show (⟨a, a + 1, a + 2, mT (a + 3)⟩ : S83) :: mR (n + 1) (a + 4) = _
    rw [mR_succ n (a + 4)]
    have e : a + 4 + 4 * (n : Int) = a + 4 * ((n + 1 : Nat) : Int) := by omega
    rw [e]
    rfl
theorem mR_get : ∀ (n : Nat) (a : Int) (i : Nat), i < n → (mR n a)[i]? = some ⟨a + 4 * i, a + 4 * i + 1, a + 4 * i + 2, mT (a + 4 * i + 3)⟩
  | 0, _, _, h => absurd h (by omega)
  | n + 1, a, 0, _ => by simp [mR]
  | n + 1, a, i + 1, h => by
    simp only [mR, List.getElem?_cons_succ]
    rw [mR_get n (a + 4) i (by omega)]
    have e : a + 4 + 4 * (i : Int) = a + 4 * ((i + 1 : Nat) : Int) := by omega
    rw [e]
theorem rd_midR (p r : List S83) (y : S83) (i : Nat) (h : p.length = i) : rd_T83 (p ++ y :: r) (i : Int) = y := by
  subst h; simp [rd_T83, List.getD]
theorem set_midR (p r : List S83) (y z : S83) (i : Nat) (h : p.length = i) : (p ++ y :: r).set i z = p ++ z :: r := by
  subst h; rw [List.set_append_right _ _ (by omega), Nat.sub_self, List.set_cons_zero]
theorem markRs_l (l : List S83) (hl : l.length ≤ 1048576) : ∀ (n i : Nat), i + n = l.length → Ev (fun k => laws_markRecordS.l0 k (mR i 1 ++ l.drop i) (1 + 4 * (i : Int)) (i : Int)) (1 + 4 * (l.length : Int), mR l.length 1) := by
  intro n
  induction n with
  | zero =>
    intro i hi
    obtain rfl : i = l.length := by omega
    refine Ev.step (f := fun _ => some _) (fun k => ?_) (Ev.now _)
    simp only [laws_markRecordS.l0]
    rw [if_neg (by simp [mR_len])]
    simp
  | succ n ih =>
    intro i hi
    have h := ih (i + 1) (by omega)
    have e1 : wrap64 (1 + 4 * (i : Int) + 1) = 1 + 4 * (i : Int) + 1 := w64 (by omega) (by omega)
    have e2 : wrap64 (1 + 4 * (i : Int) + 1 + 1) = 1 + 4 * (i : Int) + 2 := by rw [w64 (by omega) (by omega)]; omega
    have e3 : wrap64 (1 + 4 * (i : Int) + 2 + 1) = 1 + 4 * (i : Int) + 3 := by rw [w64 (by omega) (by omega)]; omega
    have e5 : wrap64 (1 + 4 * (i : Int) + 3 + 1) = 1 + 4 * ((i + 1 : Nat) : Int) := by rw [w64 (by omega) (by omega)]; omega
    have e4 : wrap64 ((i : Int) + 1) = ((i + 1 : Nat) : Int) := by rw [w64 (by omega) (by omega)]; rfl
    have c1 : (i : Int) < ((mR i 1 ++ l.drop i).length : Int) := by simp [mR_len]; omega
    refine Ev.step (f := fun k => (laws_markText.f k (1 + 4 * (i : Int) + 3)).bind fun t1 => laws_markRecordS.l0 k (mR i 1 ++ (⟨1 + 4 * (i : Int), 1 + 4 * (i : Int) + 1, 1 + 4 * (i : Int) + 2, t1⟩ : S83) :: l.drop (i + 1)) (1 + 4 * ((i + 1 : Nat) : Int)) ((i + 1 : Nat) : Int)) (fun k => ?_)
      (evThen (mT_ev (1 + 4 * (i : Int) + 3) (by omega)) (fun k => rfl) ?_)
    · rw [laws_markRecordS.l0, if_pos c1, if_pos (show (0 : Int) ≤ (i : Int) by omega)]
      rw [List.drop_eq_getElem_cons (by omega)]
      simp (implicitDefEqProofs := false) only [Option.bind_some, e1, e2, e3, e4, e5, Int.toNat_natCast, set_midR _ _ _ _ i (mR_len i 1), rd_midR _ _ _ i (mR_len i 1)]
    · rw [mR_succ, List.append_assoc] at h
      exact h
theorem heldRs_l (m : Nat) (hm : m ≤ 1048576) : ∀ (n i : Nat), i + n = m → Ev (fun k => laws_heldRecordS.l0 k (mR m 1) (1 + 4 * (i : Int)) (i : Int)) (1 + 4 * (m : Int)) := by
  intro n
  induction n with
  | zero =>
    intro i hi
    obtain rfl : i = m := by omega
    refine Ev.step (f := fun _ => some _) (fun k => ?_) (Ev.now _)
    simp only [laws_heldRecordS.l0]
    rw [if_neg (by simp [mR_len])]
  | succ n ih =>
    intro i hi
    have h := ih (i + 1) (by omega)
    have e1 : wrap64 (1 + 4 * (i : Int) + 1) = 1 + 4 * (i : Int) + 1 := w64 (by omega) (by omega)
    have e2 : wrap64 (1 + 4 * (i : Int) + 1 + 1) = 1 + 4 * (i : Int) + 2 := by rw [w64 (by omega) (by omega)]; omega
    have e3 : wrap64 (1 + 4 * (i : Int) + 2 + 1) = 1 + 4 * (i : Int) + 3 := by rw [w64 (by omega) (by omega)]; omega
    have e5 : wrap64 (1 + 4 * (i : Int) + 3 + 1) = 1 + 4 * ((i + 1 : Nat) : Int) := by rw [w64 (by omega) (by omega)]; omega
    have e4 : wrap64 ((i : Int) + 1) = ((i + 1 : Nat) : Int) := by rw [w64 (by omega) (by omega)]; rfl
    have er : rd_T83 (mR m 1) (i : Int) = ⟨1 + 4 * (i : Int), 1 + 4 * (i : Int) + 1, 1 + 4 * (i : Int) + 2, mT (1 + 4 * (i : Int) + 3)⟩ := by simp [rd_T83, List.getD, mR_get m 1 i (by omega)]
    refine Ev.step (f := fun k => (laws_markText.f k (1 + 4 * (i : Int) + 3)).bind fun t1 => if (mT (1 + 4 * (i : Int) + 3)).toList = t1.toList then laws_heldRecordS.l0 k (mR m 1) (1 + 4 * ((i + 1 : Nat) : Int)) ((i + 1 : Nat) : Int) else some (-1)) (fun k => ?_)
      (evThen (mT_ev (1 + 4 * (i : Int) + 3) (by omega)) (fun k => rfl) ?_)
    · rw [laws_heldRecordS.l0, if_pos (by rw [mR_len]; omega), if_pos (show (0 : Int) ≤ (i : Int) by omega)]
      simp (implicitDefEqProofs := false) only [e1, e2, e3, e4, e5, er, if_true]
    · simp only [if_true]
      exact h
theorem markR_ev (l : List S83) (hl : l.length ≤ 1048576) : Ev (fun k => laws_markRecordS.f k l 1) (1 + 4 * (l.length : Int), mR l.length 1) := by
  have h := markRs_l l hl l.length 0 (by omega)
  simpa [laws_markRecordS.f, mR] using h
theorem heldR_ev (m : Nat) (hm : m ≤ 1048576) : Ev (fun k => laws_heldRecordS.f k (mR m 1) 1) (1 + 4 * (m : Int)) := by
  have h := heldRs_l m hm m 0 (by omega)
  simpa [laws_heldRecordS.f] using h
theorem FnExactLogOf (a b c : Int) (l : List ByteArray) (s : ByteArray) (ha : -9223372036854775808 ≤ a ∧ a ≤ 9223372036854775807) (hb : -9223372036854775808 ≤ b ∧ b ≤ 9223372036854775807) (hc : -9223372036854775808 ≤ c ∧ c ≤ 9223372036854775807) (hl : l.length ≤ 9223372036854775807) (hx : ∀ s ∈ l, s.size ≤ 9223372036854775807) (hs : s.size ≤ 9223372036854775807) : ∃ k, laws_FnExactLogOf.f k a b c l s = some true := by
  by_cases hbig : (s.size : Int) > 1048576
  · exact ⟨0, by unfold laws_FnExactLogOf.f; rw [if_pos hbig]⟩
  refine Ev.rounds (r := true) ?_
  unfold laws_FnExactLogOf.f
  simp only [if_neg hbig]
  obtain ⟨r, hr, _, _, hb⟩ := szConfig_ev a b c l hl hx 1048576 (by omega) (by omega)
  refine evThen hr (fun k => rfl) ?_
  by_cases d : r < 0
  · simp only [if_pos d]; exact Ev.now _
  · obtain ⟨hl', hx'⟩ := hb (by omega)
    have t := toConfig_ev a b c l hl'
    have n32 := logP_len a b c l s
    have e := eqRecs_refl (logP a b c l s).1 (by omega)
    have i := iLO a b c l s (by omega)
    obtain ⟨mk, hmk, hmk0⟩ := markStrs_ev l hl'
    have hh := heldR_ev (logP a b c l s).1.length (by omega)
    simp only [if_neg d]
    refine evThen t (fun k => rfl) (evThen (sLO a b c l s hl' hx (by omega)) (fun k => rfl) (evThen t (fun k => rfl) (evThen i (fun k => rfl) (evThen e (fun k => rfl) ?_))))
    simp only [if_true, bne_self_eq_false]
    refine Ev.step (f := fun k => _) (fun k => by simp (implicitDefEqProofs := false) only [laws_FnExactLogOf.j0, Bool.false_eq_true, if_false]; rfl) ?_
    refine evThen t (fun k => rfl) (evThen (eqConfig_refl a b c l hl) (fun k => rfl) ?_)
    simp only [if_true]
    refine evThen (g := fun k => laws_markConfig.f k a b c l 1) (a := (mk.1, mk.2)) (evThen hmk (fun k => rfl) (Ev.now _)) (fun k => rfl) ?_
    simp only [if_neg (show ¬ mk.1 < 0 by omega)]
    refine evThen e (fun k => rfl) ?_
    simp only [if_true, bne_self_eq_false]
    refine Ev.step (f := fun k => _) (fun k => by simp (implicitDefEqProofs := false) only [laws_FnExactLogOf.j1, Bool.false_eq_true, if_false]; rfl) ?_
    refine evThen (markR_ev (logP a b c l s).1 (by omega)) (fun k => rfl) (evThen hh (fun k => rfl) ?_)
    simp only [if_neg (show ¬ (1 + 4 * ((logP a b c l s).1.length : Int)) < 0 by omega), if_true]
    refine evThen t (fun k => rfl) (evThen i (fun k => rfl) (evThen e (fun k => rfl) ?_))
    simp only [if_true, bne_self_eq_false]
    refine Ev.step (f := fun k => _) (fun k => by simp (implicitDefEqProofs := false) only [laws_FnExactLogOf.j2, Bool.false_eq_true, if_false]; rfl) ?_
    refine evThen hh (fun k => rfl) ?_
    simp only [if_neg (show ¬ (1 + 4 * ((logP a b c l s).1.length : Int)) < 0 by omega), if_true]
    exact Ev.now _
end Go.Proofs.YtngccjeicolcpaaGreatDoor.Pure
