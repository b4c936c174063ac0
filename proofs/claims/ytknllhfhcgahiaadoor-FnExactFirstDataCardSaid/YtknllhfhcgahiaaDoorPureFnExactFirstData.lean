/- The program's FirstData tells what the reference's tells. -/
import Derived.Test.YtknllhfhcgahiaaDoorPFnExactFirstDatax0
import Derived.Test.YtknllhfhcgahiaaDoorPFnExactFirstDatax1
import Derived.Test.YtknllhfhcgahiaaDoorPFnExactFirstDatax2
namespace Go.Proofs.YtknllhfhcgahiaaDoor.Pure
open Go.RowKit Go.Proofs.YtknllhfhcgahiaaDoor.PFnExactFirstData Go.Proofs.YtknllhfhcgahiaaDoorW.PrintWords Go.Proofs.YtknllhfhcgahiaaDoorW.PrintLast
set_option linter.unusedVariables false
set_option linter.unusedSimpArgs false
theorem w64 {n : Int} (h0 : -9223372036854775808 ≤ n) (h1 : n ≤ 9223372036854775807) : wrap64 n = n := by unfold wrap64; omega
theorem evThen {α β : Type} {g : Nat → Option α} {h : Nat → Option β} {f : Nat → α → Option β} {a : α} {r : β} (e : Ev g a) (he : ∀ k, h k = (g k).bind (f k)) (k : Ev (fun n => f n a) r) : Ev h r := Ev.congr he (Ev.bind e k)
theorem evIs {α : Type} {g : Nat → Option α} {r : α} (h : ∀ k, g k = some r) : Ev g r := ⟨0, fun k _ => h k⟩
theorem evIs1 {α : Type} {g : Nat → Option α} {r : α} (h : ∀ k, g (k + 1) = some r) : Ev g r := ⟨1, fun k hk => by cases k with | zero => omega | succ k => exact h k⟩
theorem rdS (l : List ByteArray) (i : Nat) (h : i < l.length) : rdOf ByteArray.empty l (i : Int) = l[i] := by
  unfold rdOf; rw [Int.toNat_natCast, List.getD_eq_getElem?_getD, List.getElem?_eq_getElem h]; rfl
theorem szStringS_l (l : List ByteArray) (hl : l.length ≤ 9223372036854775807) (hx : ∀ s ∈ l, s.size ≤ 9223372036854775807) : ∀ (n : Nat) (left : Int) (i : Nat), i + n = l.length → 0 ≤ left → left ≤ 1048576 → ∃ r, Ev (fun k => laws_szStringS.l0 k l left (i : Int)) r ∧ r ≤ left ∧ -1 ≤ r ∧ (0 ≤ r → ∀ s ∈ l.drop i, s.size ≤ 1048576) := by
  intro n
  induction n with
  | zero => intro left i hi h0 h1; exact ⟨left, evIs1 (fun k => by simp only [laws_szStringS.l0]; rw [if_neg (by omega)]), by omega, by omega, fun _ => by rw [List.drop_eq_nil_iff.2 (by omega)]; intro s hs; cases hs⟩
  | succ n ih =>
    intro left i hi h0 h1
    have hil : i < l.length := by omega
    have hb := hx _ (List.getElem_mem hil)
    by_cases c : left - ((l[i]).size : Int) < 0
    · refine ⟨-1, evIs1 (fun k => ?_), by omega, by omega, by omega⟩
      simp only [laws_szStringS.l0]
      rw [if_pos (by omega), if_pos (by omega), rdS l i hil, if_pos (by rw [w64 (by omega) (by omega)]; exact c)]
    · obtain ⟨z, hz, z1, z2, z3⟩ := ih (left - ((l[i]).size : Int)) (i + 1) (by omega) (by omega) (by omega)
      refine ⟨z, Ev.step (f := fun k => laws_szStringS.l0 k l (left - ((l[i]).size : Int)) ((i + 1 : Nat) : Int)) (fun k => ?_) hz, by omega, z2, fun hz0 => ?_⟩
      · simp only [laws_szStringS.l0]
        rw [if_pos (by omega), if_pos (by omega), rdS l i hil, w64 (n := left - ((l[i]).size : Int)) (by omega) (by omega), if_neg c, w64 (by omega) (by omega)]
        rfl
      · rw [List.drop_eq_getElem_cons hil]
        intro s hs
        rcases List.mem_cons.1 hs with rfl | hs
        · omega
        · exact z3 hz0 s hs
theorem szStringS_ev (l : List ByteArray) (hl : l.length ≤ 9223372036854775807) (hx : ∀ s ∈ l, s.size ≤ 9223372036854775807) (left : Int) (h0 : left ≤ 1048576) (h1 : 0 ≤ left) : ∃ r, Ev (fun k => laws_szStringS.f k l left) r ∧ r ≤ left ∧ -1 ≤ r ∧ (0 ≤ r → l.length ≤ 1048576 ∧ ∀ s ∈ l, s.size ≤ 1048576) := by
  have e : wrap64 (left - (l.length : Int)) = left - (l.length : Int) := w64 (by omega) (by omega)
  by_cases c : left - (l.length : Int) < 0
  · exact ⟨-1, evIs fun k => by unfold laws_szStringS.f; rw [e, if_pos c], by omega, by omega, by omega⟩
  · obtain ⟨r, hr, r1, r2, r3⟩ := szStringS_l l hl hx l.length (left - (l.length : Int)) 0 (by omega) (by omega) (by omega)
    exact ⟨r, Ev.congr (fun k => by unfold laws_szStringS.f; rw [e, if_neg c]; rfl) hr, by omega, r2, fun h => ⟨by omega, fun s hs => r3 h s (by simpa using hs)⟩⟩
theorem szConfig_ev (a b c : Int) (l : List ByteArray) (hl : l.length ≤ 9223372036854775807) (hx : ∀ s ∈ l, s.size ≤ 9223372036854775807) (left : Int) (h0 : left ≤ 1048576) (h1 : 0 ≤ left) : ∃ r, Ev (fun k => laws_szConfig.f k a b c l left) r ∧ r ≤ left ∧ -1 ≤ r ∧ (0 ≤ r → l.length ≤ 1048576 ∧ ∀ s ∈ l, s.size ≤ 1048576) := by
  obtain ⟨r, hr, r1, r2, r3⟩ := szStringS_ev l hl hx left h0 h1
  by_cases d : r < 0
  · exact ⟨-1, evThen hr (fun k => rfl) (evIs fun k => by rw [if_pos d]), by omega, by omega, by omega⟩
  · exact ⟨r, evThen hr (fun k => rfl) (evIs fun k => by rw [if_neg d]), r1, r2, r3⟩
theorem toStrs_l (l : List ByteArray) (hl : l.length ≤ 1048576) : ∀ (n i : Nat), i + n = l.length → Ev (fun k => laws_toStringS.l0 k l (l.take i ++ List.replicate n (⟨#[]⟩ : ByteArray)) (i : Int)) l := by
  intro n
  induction n with
  | zero =>
    intro i hi
    refine evIs1 (fun k => ?_)
    simp only [laws_toStringS.l0]
    rw [if_neg (by omega), List.take_of_length_le (by omega)]
    simp
  | succ n ih =>
    intro i hi
    have h := ih (i + 1) (by omega)
    refine Ev.step (f := fun k => laws_toStringS.l0 k l (l.take (i + 1) ++ List.replicate n (⟨#[]⟩ : ByteArray)) ((i + 1 : Nat) : Int)) (fun k => ?_) h
    simp only [laws_toStringS.l0]
    have hlen : (l.take i ++ List.replicate (n + 1) (⟨#[]⟩ : ByteArray)).length = l.length := by simp; omega
    have hi' : i < l.length := by omega
    rw [if_pos (by omega), if_pos (by omega), if_pos (by rw [hlen]; omega), w64 (by omega) (by omega), rdS l i hi']
    congr 1
    have hm : (l.take i).length = i := by simp; omega
    rw [Int.toNat_natCast, List.set_append_right _ _ (by omega), hm, Nat.sub_self, List.replicate_succ, List.set_cons_zero, List.take_add_one, List.append_assoc]
    congr 1
    simp [hi']
theorem toStrs_ev (l : List ByteArray) (hl : l.length ≤ 1048576) : Ev (fun k => laws_toStringS.f k l) l := by
  have h := toStrs_l l hl l.length 0 (by omega)
  refine Ev.congr (fun k => ?_) h
  unfold laws_toStringS.f
  rw [if_pos (by omega), if_pos (by omega)]
  simp
theorem toConfig_ev (a b c : Int) (l : List ByteArray) (hl : l.length ≤ 1048576) : Ev (fun k => laws_toConfig.f k a b c l) (a, b, c, l) :=
  evThen (toStrs_ev l hl) (fun k => rfl) (evIs fun k => rfl)
theorem eqStrs_l (l : List ByteArray) (hl : l.length ≤ 9223372036854775807) : ∀ (n i : Nat), i + n = l.length → Ev (fun k => laws_eqStringS.l0 k l l (i : Int)) true := by
  intro n
  induction n with
  | zero =>
    intro i hi
    exact evIs1 (fun k => by simp only [laws_eqStringS.l0]; rw [if_neg (by omega)])
  | succ n ih =>
    intro i hi
    refine Ev.step (f := fun k => laws_eqStringS.l0 k l l ((i + 1 : Nat) : Int)) (fun k => ?_) (ih (i + 1) (by omega))
    simp only [laws_eqStringS.l0]
    rw [if_pos (by omega), if_pos (by omega), if_pos (by omega), if_pos trivial, w64 (by omega) (by omega)]
    rfl
theorem eqStrs_refl (l : List ByteArray) (hl : l.length ≤ 9223372036854775807) : Ev (fun k => laws_eqStringS.f k l l) true :=
  Ev.congr (fun k => by unfold laws_eqStringS.f; rw [if_pos rfl]; rfl) (eqStrs_l l hl l.length 0 (by omega))
theorem eqConfig_refl (a b c : Int) (l : List ByteArray) (hl : l.length ≤ 9223372036854775807) : Ev (fun k => laws_eqConfig.f k a b c l a b c l) true :=
  evThen (eqStrs_refl l hl) (fun k => by unfold laws_eqConfig.f; rw [if_pos rfl, if_pos rfl, if_pos rfl]) (evIs fun k => by rw [if_pos rfl])
theorem sIn (a b c : Int) : spec_l1In.f a b c = some (decide (b ≤ a ∧ a ≤ c)) := by
  unfold spec_l1In.f
  by_cases h : a ≥ b
  · rw [if_pos h]; congr 1; rw [decide_eq_decide]; omega
  · rw [if_neg h]; congr 1; symm; rw [decide_eq_false_iff_not]; omega
theorem ok_at (s : ByteArray) (i : Nat) (h : i < s.size) (h' : i < s.data.toList.length) : impl_isType.ok (s.data.toList[i]) = (decide (bt s (i : Int) = 105) || decide (bt s (i : Int) = 114)) := by
  have e : bt s (i : Int) = ((s.data.toList[i]).toNat : Int) := by
    rw [← bt_at s (i : Int) (by rw [Int.toNat_natCast]; exact h)]
    simp only [Int.toNat_natCast, Array.getElem_toList]; rfl
  rw [e]
  generalize s.data.toList[i] = b
  unfold impl_isType.ok
  have g : ∀ n : UInt8, (b == n) = decide ((b.toNat : Int) = (n.toNat : Int)) := by
    intro n
    by_cases hb : b = n
    · subst hb; simp
    · have : ¬ ((b.toNat : Int) = (n.toNat : Int)) := fun q => hb (UInt8.toNat_inj.1 (by omega))
      simp [hb, this]
  rw [g 105, g 114]; rfl
theorem sTyp_l (s : ByteArray) (hs : s.size ≤ 9223372036854775807) : ∀ (n i : Nat), i + n = s.size → Ev (fun k => spec_l3Type.l0 k s (i : Int)) (decide (1 ≤ (s.size : Int) ∧ (s.size : Int) ≤ 23) && (s.data.toList.drop i).all impl_isType.ok) := by
  intro n
  have hl : s.data.toList.length = s.size := Array.length_toList
  induction n with
  | zero =>
    intro i hi
    refine evIs1 fun k => ?_
    simp only [spec_l3Type.l0]
    rw [if_neg (by omega), sIn, Option.bind_some, List.drop_eq_nil_iff.2 (by omega), List.all_nil, Bool.and_true]
  | succ n ih =>
    intro i hi
    have ih := ih (i + 1) (by omega)
    have hil : i < s.data.toList.length := by omega
    have e := ok_at s i (by omega) hil
    rw [List.drop_eq_getElem_cons hil, List.all_cons, e]
    by_cases c1 : bt s (i : Int) = 105
    · rw [decide_eq_true c1, Bool.true_or, Bool.true_and]
      refine Ev.step (f := fun k => spec_l3Type.l0 k s ((i + 1 : Nat) : Int)) (fun k => ?_) ih
      simp only [spec_l3Type.l0]
      rw [if_pos (by omega), if_pos (by omega), if_pos c1, w64 (by omega) (by omega)]; rfl
    · by_cases c2 : bt s (i : Int) = 114
      · rw [decide_eq_true c2, Bool.or_true, Bool.true_and]
        refine Ev.step (f := fun k => spec_l3Type.l0 k s ((i + 1 : Nat) : Int)) (fun k => ?_) ih
        simp only [spec_l3Type.l0]
        rw [if_pos (by omega), if_pos (by omega), if_neg c1, if_pos c2, w64 (by omega) (by omega)]; rfl
      · rw [decide_eq_false c1, decide_eq_false c2, Bool.or_false, Bool.false_and, Bool.and_false]
        refine evIs1 fun k => ?_
        simp only [spec_l3Type.l0]
        rw [if_pos (by omega), if_pos (by omega), if_neg c1, if_neg c2]
theorem sTyp (s : ByteArray) (hs : s.size ≤ 9223372036854775807) : Ev (fun k => spec_l3Type.f k s) (impl_isType.g s) :=
  Ev.congr (fun k => rfl) (sTyp_l s hs s.size 0 (by omega))
theorem sTys_l (l : List ByteArray) (hl : l.length ≤ 9223372036854775807) (hx : ∀ s ∈ l, s.size ≤ 9223372036854775807) : ∀ (n i : Nat), i + n = l.length → Ev (fun k => spec_TypesOk.l0 k l (i : Int)) ((l.drop i).all impl_isType.g) := by
  intro n
  induction n with
  | zero =>
    intro i hi
    exact evIs1 (fun k => by simp only [spec_TypesOk.l0]; rw [if_neg (by omega), List.drop_eq_nil_iff.2 (by omega)]; rfl)
  | succ n ih =>
    intro i hi
    have hil : i < l.length := by omega
    have ih := ih (i + 1) (by omega)
    have ht := sTyp l[i] (hx _ (List.getElem_mem hil))
    rw [List.drop_eq_getElem_cons hil, List.all_cons]
    refine Ev.step (f := fun k => (spec_l3Type.f k l[i]).bind fun t => if t = true then spec_TypesOk.l0 k l ((i + 1 : Nat) : Int) else some false) (fun k => ?_) ?_
    · simp only [spec_TypesOk.l0]
      rw [if_pos (by omega), if_pos (by omega), rdS l i hil, w64 (by omega) (by omega)]; rfl
    · refine evThen ht (fun k => rfl) ?_
      by_cases c : impl_isType.g l[i] = true
      · rw [c, Bool.true_and]; simp only [if_true]; exact ih
      · rw [Bool.eq_false_iff.2 c, Bool.false_and]; exact evIs fun k => rfl
theorem sTys (l : List ByteArray) (hl : l.length ≤ 9223372036854775807) (hx : ∀ s ∈ l, s.size ≤ 9223372036854775807) : Ev (fun k => spec_TypesOk.f k l) (impl_TypesOk.g l) := by
  have e : ∀ k, spec_TypesOk.f k l = if (decide (1 ≤ (l.length : Int) ∧ (l.length : Int) ≤ 12)) = true then spec_TypesOk.l0 k l 0 else some false := fun k => by
    unfold spec_TypesOk.f; rw [sIn, Option.bind_some]
  unfold impl_TypesOk.g
  by_cases c : 1 ≤ (l.length : Int) ∧ (l.length : Int) ≤ 12
  · rw [decide_eq_true c, Bool.true_and]
    refine Ev.congr (fun k => ?_) (sTys_l l hl hx l.length 0 (by omega))
    rw [e k, decide_eq_true c, if_pos rfl]; rfl
  · rw [decide_eq_false c, Bool.false_and]
    exact evIs fun k => by rw [e k, decide_eq_false c]; rfl
def cfgB (a b c : Int) : Bool := decide ((8 ≤ a ∧ a ≤ 128) ∧ (1 ≤ b ∧ b ≤ 32) ∧ b ≤ a - 5 ∧ (2 ≤ c ∧ c ≤ 400))
def cfgP (a b c : Int) (l : List ByteArray) : Bool := cfgB a b c && impl_TypesOk.g l
theorem cfgB_no {a b c : Int} (h : ¬ ((8 ≤ a ∧ a ≤ 128) ∧ (1 ≤ b ∧ b ≤ 32) ∧ b ≤ a - 5 ∧ (2 ≤ c ∧ c ≤ 400))) : cfgB a b c = false := decide_eq_false h
theorem sCfg_eq (a b c : Int) (l : List ByteArray) (k : Nat) : spec_ConfigOk.f k a b c l = if cfgB a b c = true then spec_TypesOk.f k l else some false := by
  unfold spec_ConfigOk.f
  rw [sIn, Option.bind_some]
  by_cases c1 : 8 ≤ a ∧ a ≤ 128
  · rw [decide_eq_true c1, if_pos rfl, sIn, Option.bind_some]
    by_cases c2 : 1 ≤ b ∧ b ≤ 32
    · rw [decide_eq_true c2, if_pos rfl, w64 (by omega) (by omega)]
      by_cases c3 : b ≤ a - 5
      · rw [if_pos c3, sIn, Option.bind_some]
        by_cases c4 : 2 ≤ c ∧ c ≤ 400
        · rw [decide_eq_true c4, if_pos rfl, if_pos (show cfgB a b c = true from decide_eq_true ⟨c1, c2, c3, c4⟩)]
          cases spec_TypesOk.f k l <;> rfl
        · rw [decide_eq_false c4, if_neg (by decide), cfgB_no (fun h => c4 h.2.2.2), if_neg (by decide)]
      · rw [if_neg c3, cfgB_no (fun h => c3 h.2.2.1), if_neg (by decide)]
    · rw [decide_eq_false c2, if_neg (by decide), cfgB_no (fun h => c2 h.2.1), if_neg (by decide)]
  · rw [decide_eq_false c1, if_neg (by decide), cfgB_no (fun h => c1 h.1), if_neg (by decide)]
theorem sCfg (a b c : Int) (l : List ByteArray) (hl : l.length ≤ 9223372036854775807) (hx : ∀ s ∈ l, s.size ≤ 9223372036854775807) : Ev (fun k => spec_ConfigOk.f k a b c l) (cfgP a b c l) := by
  unfold cfgP
  by_cases h : cfgB a b c = true
  · rw [h, Bool.true_and]; exact Ev.congr (fun k => by rw [sCfg_eq, if_pos h]) (sTys l hl hx)
  · rw [Bool.eq_false_iff.2 h, Bool.false_and]; exact evIs fun k => by rw [sCfg_eq, if_neg h]
def fdP (a b c : Int) (l : List ByteArray) : Int := if cfgP a b c l = true then wrap64 (4 + b) else -1
theorem sFD (a b c : Int) (l : List ByteArray) (hl : l.length ≤ 9223372036854775807) (hx : ∀ s ∈ l, s.size ≤ 9223372036854775807) : Ev (fun k => spec_FirstData.f k a b c l) (fdP a b c l) := by
  refine evThen (sCfg a b c l hl hx) (fun k => rfl) (evIs fun k => ?_)
  unfold fdP; split <;> rfl
theorem iIn (a b c : Int) : impl_within.f a b c = some (decide (b ≤ a ∧ a ≤ c)) := by
  unfold impl_within.f
  by_cases h : a ≥ b
  · rw [if_pos h]; congr 1; rw [decide_eq_decide]; omega
  · rw [if_neg h]; congr 1; symm; rw [decide_eq_false_iff_not]; omega
theorem iCfg (a b c : Int) (l : List ByteArray) : impl_ConfigOk.f a b c l = some (cfgP a b c l) := by
  unfold impl_ConfigOk.f cfgP
  rw [iIn, Option.bind_some]
  by_cases c1 : 8 ≤ a ∧ a ≤ 128
  · have hm : mn 32 (wrap64 (a - 5)) = mn 32 (a - 5) := by rw [w64 (by omega) (by omega)]
    rw [decide_eq_true c1, if_pos rfl, hm, iIn, Option.bind_some]
    by_cases c2 : 1 ≤ b ∧ b ≤ mn 32 (a - 5)
    · rw [decide_eq_true c2, if_pos rfl, iIn, Option.bind_some]
      have c2' : (1 ≤ b ∧ b ≤ 32) ∧ b ≤ a - 5 := by unfold mn at c2; split at c2 <;> omega
      by_cases c4 : 2 ≤ c ∧ c ≤ 400
      · rw [decide_eq_true c4, if_pos rfl, show cfgB a b c = true from decide_eq_true ⟨c1, c2'.1, c2'.2, c4⟩, Bool.true_and]; rfl
      · rw [decide_eq_false c4, if_neg (by decide), cfgB_no (fun h => c4 h.2.2.2)]; rfl
    · rw [decide_eq_false c2, if_neg (by decide), cfgB_no (fun h => c2 (by unfold mn; split <;> omega))]; rfl
  · rw [decide_eq_false c1, if_neg (by decide), cfgB_no (fun h => c1 h.1)]; rfl
theorem iFD (a b c : Int) (l : List ByteArray) : impl_FirstData.f a b c l = some (fdP a b c l) := by
  unfold impl_FirstData.f fdP
  rw [iCfg, Option.bind_some]; split <;> rfl
theorem FnExactFirstData (a b c : Int) (l : List ByteArray) (ha : -9223372036854775808 ≤ a ∧ a ≤ 9223372036854775807) (hb : -9223372036854775808 ≤ b ∧ b ≤ 9223372036854775807) (hc : -9223372036854775808 ≤ c ∧ c ≤ 9223372036854775807) (hl : l.length ≤ 9223372036854775807) (hx : ∀ s ∈ l, s.size ≤ 9223372036854775807) : ∃ k, laws_FnExactFirstData.f k a b c l = some true := by
  refine Ev.rounds (r := true) ?_
  unfold laws_FnExactFirstData.f
  obtain ⟨r, hr, _, _, hb⟩ := szConfig_ev a b c l hl hx 1048576 (by omega) (by omega)
  refine evThen hr (fun k => rfl) ?_
  by_cases d : r < 0
  · simp only [if_pos d]; exact Ev.now _
  · obtain ⟨hl', hx'⟩ := hb (by omega)
    have t := toConfig_ev a b c l hl'
    simp only [if_neg d]
    refine evThen t (fun k => rfl) (evThen (sFD a b c l hl hx) (fun k => rfl) (evThen t (fun k => rfl) ?_))
    simp only [iFD, Option.bind_some, if_true]
    refine evThen t (fun k => rfl) (evThen (eqConfig_refl a b c l hl) (fun k => rfl) ?_)
    simp only [if_true]
    exact Ev.now _
end Go.Proofs.YtknllhfhcgahiaaDoor.Pure
