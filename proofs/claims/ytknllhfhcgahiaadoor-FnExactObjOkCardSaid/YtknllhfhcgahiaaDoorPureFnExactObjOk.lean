/- The program's ObjOk tells what the reference's tells. -/
import Derived.Test.YtknllhfhcgahiaaDoorPFnExactObjOkx0
import Derived.Test.YtknllhfhcgahiaaDoorPFnExactObjOkx1
import Derived.Test.YtknllhfhcgahiaaDoorPFnExactObjOkx2
import Derived.Test.YtknllhfhcgahiaaDoorPFnExactObjOkx3
import Derived.Test.YtknllhfhcgahiaaDoorPFnExactObjOkx4
namespace Go.Proofs.YtknllhfhcgahiaaDoor.Pure
open Go.RowKit Go.Proofs.YtknllhfhcgahiaaDoor.PFnExactObjOk Go.Proofs.YtknllhfhcgahiaaDoorW.PrintWords Go.Proofs.YtknllhfhcgahiaaDoorW.PrintLast
set_option linter.unusedVariables false
set_option linter.unusedSimpArgs false
theorem w64 {n : Int} (h0 : -9223372036854775808 ≤ n) (h1 : n ≤ 9223372036854775807) : wrap64 n = n := by unfold wrap64; omega
theorem evThen {α β : Type} {g : Nat → Option α} {h : Nat → Option β} {f : Nat → α → Option β} {a : α} {r : β} (e : Ev g a) (he : ∀ k, h k = (g k).bind (f k)) (k : Ev (fun n => f n a) r) : Ev h r := Ev.congr he (Ev.bind e k)
theorem evIs {α : Type} {g : Nat → Option α} {r : α} (h : ∀ k, g k = some r) : Ev g r := ⟨0, fun k _ => h k⟩
theorem evIs1 {α : Type} {g : Nat → Option α} {r : α} (h : ∀ k, g (k + 1) = some r) : Ev g r := ⟨1, fun k hk => by cases k with | zero => omega | succ k => exact h k⟩
theorem rdS (l : List ByteArray) (i : Nat) (h : i < l.length) : rdOf ByteArray.empty l (i : Int) = l[i] := by
  unfold rdOf; rw [Int.toNat_natCast, List.getD_eq_getElem?_getD, List.getElem?_eq_getElem h]; rfl
theorem szStringS_l (l : List ByteArray) (hl : l.length ≤ 9223372036854775807) (hx : ∀ s ∈ l, s.size ≤ 9223372036854775807) : ∀ (n : Nat) (left : Int) (i : Nat), i + n = l.length → 0 ≤ left → left ≤ 1048576 → ∃ r, Ev (fun k => laws_szStringS.l0 k l left (i : Int)) r ∧ r ≤ left ∧ -1 ≤ r ∧ (0 ≤ r → ∀ s ∈ l.drop i, s.size ≤ 1048576) := by
  intro n
  induction n with
  | zero => intro left i hi h0 h1; exact ⟨left, evIs1 (fun k => by simp only [laws_szStringS.l0]; rw [if_neg (by omega)]), by omega, by omega, fun _ => by rw [List.drop_eq_nil_iff.2 (by omega)]; intro s hs; cases hs⟩
  | succ n ih =>
    intro left i hi h0 h1
    have hil : i < l.length := by omega
    have hb := hx _ (List.getElem_mem hil)
    by_cases c : left - ((l[i]).size : Int) < 0
    · refine ⟨-1, evIs1 (fun k => ?_), by omega, by omega, by omega⟩
      simp only [laws_szStringS.l0]
      rw [if_pos (by omega), if_pos (by omega), rdS l i hil, if_pos (by rw [w64 (by omega) (by omega)]; exact c)]
    · obtain ⟨z, hz, z1, z2, z3⟩ := ih (left - ((l[i]).size : Int)) (i + 1) (by omega) (by omega) (by omega)
      refine ⟨z, Ev.step (f := fun k => laws_szStringS.l0 k l (left - ((l[i]).size : Int)) ((i + 1 : Nat) : Int)) (fun k => ?_) hz, by omega, z2, fun hz0 => ?_⟩
      · simp only [laws_szStringS.l0]
        rw [if_pos (by omega), if_pos (by omega), rdS l i hil, w64 (n := left - ((l[i]).size : Int)) (by omega) (by omega), if_neg c, w64 (by omega) (by omega)]
        rfl
      · rw [List.drop_eq_getElem_cons hil]
        intro s hs
        rcases List.mem_cons.1 hs with rfl | hs
        · omega
        · exact z3 hz0 s hs
theorem szStringS_ev (l : List ByteArray) (hl : l.length ≤ 9223372036854775807) (hx : ∀ s ∈ l, s.size ≤ 9223372036854775807) (left : Int) (h0 : left ≤ 1048576) (h1 : 0 ≤ left) : ∃ r, Ev (fun k => laws_szStringS.f k l left) r ∧ r ≤ left ∧ -1 ≤ r ∧ (0 ≤ r → l.length ≤ 1048576 ∧ ∀ s ∈ l, s.size ≤ 1048576) := by
  have e : wrap64 (left - (l.length : Int)) = left - (l.length : Int) := w64 (by omega) (by omega)
  by_cases c : left - (l.length : Int) < 0
  · exact ⟨-1, evIs fun k => by unfold laws_szStringS.f; rw [e, if_pos c], by omega, by omega, by omega⟩
  · obtain ⟨r, hr, r1, r2, r3⟩ := szStringS_l l hl hx l.length (left - (l.length : Int)) 0 (by omega) (by omega) (by omega)
    exact ⟨r, Ev.congr (fun k => by unfold laws_szStringS.f; rw [e, if_neg c]; rfl) hr, by omega, r2, fun h => ⟨by omega, fun s hs => r3 h s (by simpa using hs)⟩⟩
theorem toStrs_l (l : List ByteArray) (hl : l.length ≤ 1048576) : ∀ (n i : Nat), i + n = l.length → Ev (fun k => laws_toStringS.l0 k l (l.take i ++ List.replicate n (⟨#[]⟩ : ByteArray)) (i : Int)) l := by
  intro n
  induction n with
  | zero =>
    intro i hi
    refine evIs1 (fun k => ?_)
    simp only [laws_toStringS.l0]
    rw [if_neg (by omega), List.take_of_length_le (by omega)]
    simp
  | succ n ih =>
    intro i hi
    have h := ih (i + 1) (by omega)
    refine Ev.step (f := fun k => laws_toStringS.l0 k l (l.take (i + 1) ++ List.replicate n (⟨#[]⟩ : ByteArray)) ((i + 1 : Nat) : Int)) (fun k => ?_) h
    simp only [laws_toStringS.l0]
    have hlen : (l.take i ++ List.replicate (n + 1) (⟨#[]⟩ : ByteArray)).length = l.length := by simp; omega
    have hi' : i < l.length := by omega
    rw [if_pos (by omega), if_pos (by omega), if_pos (by rw [hlen]; omega), w64 (by omega) (by omega), rdS l i hi']
    congr 1
    have hm : (l.take i).length = i := by simp; omega
    rw [Int.toNat_natCast, List.set_append_right _ _ (by omega), hm, Nat.sub_self, List.replicate_succ, List.set_cons_zero, List.take_add_one, List.append_assoc]
    congr 1
    simp [hi']
theorem toStrs_ev (l : List ByteArray) (hl : l.length ≤ 1048576) : Ev (fun k => laws_toStringS.f k l) l := by
  have h := toStrs_l l hl l.length 0 (by omega)
  refine Ev.congr (fun k => ?_) h
  unfold laws_toStringS.f
  rw [if_pos (by omega), if_pos (by omega)]
  simp
theorem eqStrs_l (l : List ByteArray) (hl : l.length ≤ 9223372036854775807) : ∀ (n i : Nat), i + n = l.length → Ev (fun k => laws_eqStringS.l0 k l l (i : Int)) true := by
  intro n
  induction n with
  | zero =>
    intro i hi
    exact evIs1 (fun k => by simp only [laws_eqStringS.l0]; rw [if_neg (by omega)])
  | succ n ih =>
    intro i hi
    refine Ev.step (f := fun k => laws_eqStringS.l0 k l l ((i + 1 : Nat) : Int)) (fun k => ?_) (ih (i + 1) (by omega))
    simp only [laws_eqStringS.l0]
    rw [if_pos (by omega), if_pos (by omega), if_pos (by omega), if_pos trivial, w64 (by omega) (by omega)]
    rfl
theorem eqStrs_refl (l : List ByteArray) (hl : l.length ≤ 9223372036854775807) : Ev (fun k => laws_eqStringS.f k l l) true :=
  Ev.congr (fun k => by unfold laws_eqStringS.f; rw [if_pos rfl]; rfl) (eqStrs_l l hl l.length 0 (by omega))
theorem szObj_ev (a : Int) (l : List Int) (hl : l.length ≤ 9223372036854775807) (left : Int) (h0 : left ≤ 1048576) (h1 : 0 ≤ left) : ∃ r, laws_szObj.f a l left = some r ∧ r ≤ left ∧ -1 ≤ r ∧ (0 ≤ r → l.length ≤ 1048576) := by
  have e : wrap64 (left - (l.length : Int)) = left - (l.length : Int) := w64 (by omega) (by omega)
  unfold laws_szObj.f laws_szInt64S.f
  rw [e]
  by_cases c : left - (l.length : Int) < 0
  · exact ⟨-1, by rw [if_pos c, Option.bind_some, if_pos (by decide)], by omega, by omega, by omega⟩
  · exact ⟨left - (l.length : Int), by rw [if_neg c, Option.bind_some, if_neg c], by omega, by omega, fun _ => by omega⟩
theorem sIn (a b c : Int) : spec_l1In.f a b c = some (decide (b ≤ a ∧ a ≤ c)) := by
  unfold spec_l1In.f
  by_cases h : a ≥ b
  · rw [if_pos h]; congr 1; rw [decide_eq_decide]; omega
  · rw [if_neg h]; congr 1; symm; rw [decide_eq_false_iff_not]; omega
theorem ok_at (s : ByteArray) (i : Nat) (h : i < s.size) (h' : i < s.data.toList.length) : impl_isType.ok (s.data.toList[i]) = (decide (bt s (i : Int) = 105) || decide (bt s (i : Int) = 114)) := by
  have e : bt s (i : Int) = ((s.data.toList[i]).toNat : Int) := by
    rw [← bt_at s (i : Int) (by rw [Int.toNat_natCast]; exact h)]
    simp only [Int.toNat_natCast, Array.getElem_toList]; rfl
  rw [e]
  generalize s.data.toList[i] = b
  unfold impl_isType.ok
  have g : ∀ n : UInt8, (b == n) = decide ((b.toNat : Int) = (n.toNat : Int)) := by
    intro n
    by_cases hb : b = n
    · subst hb; simp
    · have : ¬ ((b.toNat : Int) = (n.toNat : Int)) := fun q => hb (UInt8.toNat_inj.1 (by omega))
      simp [hb, this]
  rw [g 105, g 114]; rfl
theorem sTyp_l (s : ByteArray) (hs : s.size ≤ 9223372036854775807) : ∀ (n i : Nat), i + n = s.size → Ev (fun k => spec_l3Type.l0 k s (i : Int)) (decide (1 ≤ (s.size : Int) ∧ (s.size : Int) ≤ 23) && (s.data.toList.drop i).all impl_isType.ok) := by
  intro n
  have hl : s.data.toList.length = s.size := Array.length_toList
  induction n with
  | zero =>
    intro i hi
    refine evIs1 fun k => ?_
    simp only [spec_l3Type.l0]
    rw [if_neg (by omega), sIn, Option.bind_some, List.drop_eq_nil_iff.2 (by omega), List.all_nil, Bool.and_true]
  | succ n ih =>
    intro i hi
    have ih := ih (i + 1) (by omega)
    have hil : i < s.data.toList.length := by omega
    have e := ok_at s i (by omega) hil
    rw [List.drop_eq_getElem_cons hil, List.all_cons, e]
    by_cases c1 : bt s (i : Int) = 105
    · rw [decide_eq_true c1, Bool.true_or, Bool.true_and]
      refine Ev.step (f := fun k => spec_l3Type.l0 k s ((i + 1 : Nat) : Int)) (fun k => ?_) ih
      simp only [spec_l3Type.l0]
      rw [if_pos (by omega), if_pos (by omega), if_pos c1, w64 (by omega) (by omega)]; rfl
    · by_cases c2 : bt s (i : Int) = 114
      · rw [decide_eq_true c2, Bool.or_true, Bool.true_and]
        refine Ev.step (f := fun k => spec_l3Type.l0 k s ((i + 1 : Nat) : Int)) (fun k => ?_) ih
        simp only [spec_l3Type.l0]
        rw [if_pos (by omega), if_pos (by omega), if_neg c1, if_pos c2, w64 (by omega) (by omega)]; rfl
      · rw [decide_eq_false c1, decide_eq_false c2, Bool.or_false, Bool.false_and, Bool.and_false]
        refine evIs1 fun k => ?_
        simp only [spec_l3Type.l0]
        rw [if_pos (by omega), if_pos (by omega), if_neg c1, if_neg c2]
theorem sTyp (s : ByteArray) (hs : s.size ≤ 9223372036854775807) : Ev (fun k => spec_l3Type.f k s) (impl_isType.g s) :=
  Ev.congr (fun k => rfl) (sTyp_l s hs s.size 0 (by omega))
theorem sTys_l (l : List ByteArray) (hl : l.length ≤ 9223372036854775807) (hx : ∀ s ∈ l, s.size ≤ 9223372036854775807) : ∀ (n i : Nat), i + n = l.length → Ev (fun k => spec_TypesOk.l0 k l (i : Int)) ((l.drop i).all impl_isType.g) := by
  intro n
  induction n with
  | zero =>
    intro i hi
    exact evIs1 (fun k => by simp only [spec_TypesOk.l0]; rw [if_neg (by omega), List.drop_eq_nil_iff.2 (by omega)]; rfl)
  | succ n ih =>
    intro i hi
    have hil : i < l.length := by omega
    have ih := ih (i + 1) (by omega)
    have ht := sTyp l[i] (hx _ (List.getElem_mem hil))
    rw [List.drop_eq_getElem_cons hil, List.all_cons]
    refine Ev.step (f := fun k => (spec_l3Type.f k l[i]).bind fun t => if t = true then spec_TypesOk.l0 k l ((i + 1 : Nat) : Int) else some false) (fun k => ?_) ?_
    · simp only [spec_TypesOk.l0]
      rw [if_pos (by omega), if_pos (by omega), rdS l i hil, w64 (by omega) (by omega)]; rfl
    · refine evThen ht (fun k => rfl) ?_
      by_cases c : impl_isType.g l[i] = true
      · rw [c, Bool.true_and]; simp only [if_true]; exact ih
      · rw [Bool.eq_false_iff.2 c, Bool.false_and]; exact evIs fun k => rfl
theorem sTys (l : List ByteArray) (hl : l.length ≤ 9223372036854775807) (hx : ∀ s ∈ l, s.size ≤ 9223372036854775807) : Ev (fun k => spec_TypesOk.f k l) (impl_TypesOk.g l) := by
  have e : ∀ k, spec_TypesOk.f k l = if (decide (1 ≤ (l.length : Int) ∧ (l.length : Int) ≤ 12)) = true then spec_TypesOk.l0 k l 0 else some false := fun k => by
    unfold spec_TypesOk.f; rw [sIn, Option.bind_some]
  unfold impl_TypesOk.g
  by_cases c : 1 ≤ (l.length : Int) ∧ (l.length : Int) ≤ 12
  · rw [decide_eq_true c, Bool.true_and]
    refine Ev.congr (fun k => ?_) (sTys_l l hl hx l.length 0 (by omega))
    rw [e k, decide_eq_true c, if_pos rfl]; rfl
  · rw [decide_eq_false c, Bool.false_and]
    exact evIs fun k => by rw [e k, decide_eq_false c]; rfl
def rkP (n : Int) : Int := if n = 0 then 0 else if 2 ≤ n ∧ n ≤ 254 ∧ Int.tmod n 2 = 0 then 1 else if 1 ≤ n ∧ n ≤ 799 ∧ Int.tmod n 2 = 1 then 2 else -1
theorem rk1 (k : Nat) (n : Int) : spec_RefKind.f (k + 9) n = some (rkP n) := by
  unfold spec_RefKind.f spec_l1In.f rkP
  by_cases h0 : n = 0
  · simp [h0]
  · by_cases h1 : 2 ≤ n <;> by_cases h2 : n ≤ 254 <;> by_cases h3 : Int.tmod n 2 = 0 <;> by_cases h4 : 1 ≤ n <;> by_cases h5 : n ≤ 799 <;> by_cases h6 : Int.tmod n 2 = 1 <;> first | (exfalso; omega) | simp [spec_RefKind.j0, spec_l1In.f, h0, h1, h2, h3, h4, h5, h6]
theorem iObj (l : List ByteArray) (t : Int) (vs : List Int) : impl_ObjOk.f l t vs = some (impl_ObjOk.g l t vs) := rfl
theorem sRK_ev (n : Int) : Ev (fun k => spec_RefKind.f k n) (rkP n) := ⟨9, fun k hk => by obtain ⟨j, rfl⟩ := Nat.exists_eq_add_of_le hk; rw [Nat.add_comm]; exact rk1 j n⟩
theorem ref_rk (n : Int) : impl_ObjOk.ref n = !decide (rkP n < 0) := by
  unfold impl_ObjOk.ref rkP
  by_cases h0 : n = 0
  · simp [h0]
  · by_cases h1 : 2 ≤ n ∧ n ≤ 254 ∧ Int.tmod n 2 = 0
    · rw [if_neg h0, if_pos h1]; simp [h1]
    · by_cases h2 : 1 ≤ n ∧ n ≤ 799 ∧ Int.tmod n 2 = 1
      · rw [if_neg h0, if_neg h1, if_pos h2]; simp [h2]
      · rw [if_neg h0, if_neg h1, if_neg h2]; simp only [h0, h1, h2]; decide
theorem sObj_l (l : List ByteArray) (t : Int) (vs : List Int) (s : ByteArray) (h0 : 0 ≤ t) (h1 : t < (l.length : Int)) (hs : rdOf ByteArray.empty l t = s) (hv : (vs.length : Int) = (s.size : Int)) (hb : s.size ≤ 9223372036854775807) : ∀ (n i : Nat), i + n = vs.length → Ev (fun k => spec_ObjOk.l0 k l (i : Int) t vs) ((List.range' i n).all (impl_ObjOk.one s vs)) := by
  intro n
  induction n with
  | zero =>
    intro i hi
    exact evIs1 (fun k => by simp only [spec_ObjOk.l0]; rw [if_neg (by omega)]; rfl)
  | succ n ih =>
    intro i hi
    have ih := ih (i + 1) (by omega)
    rw [List.range'_succ, List.all_cons]
    have e : ∀ k, spec_ObjOk.l0 (k + 1) l (i : Int) t vs = if bt s (i : Int) = 114 then ((spec_RefKind.f k (rd vs (i : Int))).bind fun z => (if z < 0 then (some false) else spec_ObjOk.l0 k l ((i + 1 : Nat) : Int) t vs)) else spec_ObjOk.l0 k l ((i + 1 : Nat) : Int) t vs := by
      intro k
      simp only [spec_ObjOk.l0]
      rw [if_pos (by omega), if_pos h0, if_pos h1, hs, if_pos (by omega), if_pos (by omega), w64 (by omega) (by omega)]; rfl
    by_cases c : bt s (i : Int) = 114
    · refine Ev.step (f := fun k => (spec_RefKind.f k (rd vs (i : Int))).bind fun z => (if z < 0 then (some false) else spec_ObjOk.l0 k l ((i + 1 : Nat) : Int) t vs)) (fun k => by rw [e k, if_pos c]) ?_
      refine evThen (sRK_ev (rd vs (i : Int))) (fun k => rfl) ?_
      by_cases d : rkP (rd vs (i : Int)) < 0
      · have : impl_ObjOk.one s vs i = false := by unfold impl_ObjOk.one; rw [ref_rk, decide_eq_true c, decide_eq_true d]; rfl
        rw [this, Bool.false_and]; exact evIs fun k => by rw [if_pos d]
      · have : impl_ObjOk.one s vs i = true := by unfold impl_ObjOk.one; rw [ref_rk, decide_eq_false d, Bool.or_eq_true]; exact Or.inr rfl
        rw [this, Bool.true_and]; exact Ev.congr (fun k => by rw [if_neg d]) ih
    · have : impl_ObjOk.one s vs i = true := by unfold impl_ObjOk.one; rw [decide_eq_false c]; rfl
      rw [this, Bool.true_and]
      exact Ev.step (f := fun k => spec_ObjOk.l0 k l ((i + 1 : Nat) : Int) t vs) (fun k => by rw [e k, if_neg c]) ih
theorem sObj (l : List ByteArray) (t : Int) (vs : List Int) (hl : l.length ≤ 1048576) (hx : ∀ s ∈ l, s.size ≤ 9223372036854775807) : Ev (fun k => spec_ObjOk.f k l t vs) (impl_ObjOk.g l t vs) := by
  refine evThen (sTys l (by omega) hx) (fun k => rfl) ?_
  unfold impl_ObjOk.g
  by_cases c1 : impl_TypesOk.g l = true
  · rw [c1, Bool.true_and]; simp only [if_true]
    unfold impl_ObjOk.is
    refine Ev.congr (fun k => by rw [sIn, Option.bind_some, w64 (by omega) (by omega)]) ?_
    by_cases c2 : 0 ≤ t ∧ t ≤ (l.length : Int) - 1
    · rw [decide_eq_true c2, Bool.true_and]
      simp only [if_true, if_pos c2.1, if_pos (show t < (l.length : Int) by omega)]
      have hb : (rdOf ByteArray.empty l t).size ≤ 9223372036854775807 := by
        unfold rdOf; rw [List.getD_eq_getElem?_getD, List.getElem?_eq_getElem (by omega)]; exact hx _ (List.getElem_mem _)
      unfold impl_ObjOk.vals
      by_cases c3 : (vs.length : Int) = ((rdOf ByteArray.empty l t).size : Int)
      · rw [decide_eq_true c3, Bool.true_and, List.range_eq_range', bne_eq_false_iff_eq.mpr c3]
        refine Ev.step (f := fun k => spec_ObjOk.l0 k l 0 t vs) (fun k => by simp only [spec_ObjOk.j0]; rw [if_neg (by decide)]) ?_
        exact sObj_l l t vs _ c2.1 (by omega) rfl c3 hb vs.length 0 (by omega)
      · rw [decide_eq_false c3, Bool.false_and, bne_iff_ne.mpr c3]
        exact evIs1 fun k => by simp only [spec_ObjOk.j0]; rw [if_pos trivial]
    · rw [decide_eq_false c2, Bool.false_and]
      exact Ev.congr (fun k => by rw [if_neg (by decide)]) (evIs1 fun k => by simp only [spec_ObjOk.j0]; rw [if_pos trivial])
  · rw [Bool.eq_false_iff.2 c1, Bool.false_and]
    exact Ev.congr (fun k => by rw [if_neg (by decide)]) (evIs1 fun k => by simp only [spec_ObjOk.j0]; rw [if_pos trivial])
theorem toInts_l (l : List Int) (hl : l.length ≤ 1048576) : ∀ (n i : Nat), i + n = l.length → Ev (fun k => laws_toInt64S.l0 k l (l.take i ++ List.replicate n 0) (i : Int)) l := by
  intro n
  induction n with
  | zero =>
    intro i hi
    refine Ev.step (f := fun _ => some l) (fun k => ?_) (Ev.now _)
    simp only [laws_toInt64S.l0]
    rw [if_neg (by omega), List.take_of_length_le (by omega)]
    simp
  | succ n ih =>
    intro i hi
    have h := ih (i + 1) (by omega)
    refine Ev.step (f := fun k => laws_toInt64S.l0 k l (l.take (i + 1) ++ List.replicate n 0) ((i + 1 : Nat) : Int)) (fun k => ?_) h
    simp only [laws_toInt64S.l0]
    have hlen : (l.take i ++ List.replicate (n + 1) (0 : Int)).length = l.length := by simp; omega
    rw [if_pos (by omega), if_pos (by omega), if_pos (by rw [hlen]; omega), w64 (by omega) (by omega)]
    congr 1
    have hm : (l.take i).length = i := by simp; omega
    rw [Int.toNat_natCast, List.set_append_right _ _ (by omega), hm, Nat.sub_self, List.replicate_succ, List.set_cons_zero, List.take_add_one, List.append_assoc]
    congr 1
    have hi' : i < l.length := by omega
    simp [rd, rdOf, List.getD, hi']
theorem toInts_ev (l : List Int) (hl : l.length ≤ 1048576) : Ev (fun k => laws_toInt64S.f k l) l := by
  have h := toInts_l l hl l.length 0 (by omega)
  refine Ev.congr (fun k => ?_) h
  unfold laws_toInt64S.f
  rw [if_pos (by omega), if_pos (by omega)]
  simp
theorem toObj_ev (a : Int) (l : List Int) (hl : l.length ≤ 1048576) : Ev (fun k => laws_toObj.f k a l) (a, l) :=
  evThen (toInts_ev l hl) (fun k => rfl) (evIs fun k => rfl)
theorem eqInts_l (l : List Int) (hl : l.length ≤ 9223372036854775807) : ∀ (n i : Nat), i + n = l.length → Ev (fun k => laws_eqInt64S.l0 k l l (i : Int)) true := by
  intro n
  induction n with
  | zero =>
    intro i hi
    exact Ev.step (f := fun _ => some true) (fun k => by simp only [laws_eqInt64S.l0]; rw [if_neg (by omega)]) (Ev.now _)
  | succ n ih =>
    intro i hi
    refine Ev.step (f := fun k => laws_eqInt64S.l0 k l l ((i + 1 : Nat) : Int)) (fun k => ?_) (ih (i + 1) (by omega))
    simp only [laws_eqInt64S.l0]
    rw [if_pos (by omega), if_pos (by omega), if_pos (by omega), if_pos trivial, w64 (by omega) (by omega)]
    rfl
theorem eqInts_refl (l : List Int) (hl : l.length ≤ 9223372036854775807) : Ev (fun k => laws_eqInt64S.f k l l) true :=
  Ev.congr (fun k => by unfold laws_eqInt64S.f; rw [if_pos rfl]; rfl) (eqInts_l l hl l.length 0 (by omega))
theorem eqObj_refl (a : Int) (l : List Int) (hl : l.length ≤ 9223372036854775807) : Ev (fun k => laws_eqObj.f k a l a l) true :=
  evThen (eqInts_refl l hl) (fun k => by unfold laws_eqObj.f; rw [if_pos rfl]) (evIs fun k => by rw [if_pos rfl])
theorem FnExactObjOk (l : List ByteArray) (a : Int) (vs : List Int) (hl : l.length ≤ 9223372036854775807) (hx : ∀ s ∈ l, s.size ≤ 9223372036854775807) (ha : -9223372036854775808 ≤ a ∧ a ≤ 9223372036854775807) (hv : vs.length ≤ 9223372036854775807) (hw : ∀ x ∈ vs, (Lit.int .i64 x).wf = true) : ∃ k, laws_FnExactObjOk.f k l a vs = some true := by
  refine Ev.rounds (r := true) ?_
  unfold laws_FnExactObjOk.f
  obtain ⟨r, hr, r1, r2, hb⟩ := szStringS_ev l hl hx 1048576 (by omega) (by omega)
  refine evThen hr (fun k => rfl) ?_
  by_cases c : r < 0
  · simp only [if_pos c]; exact Ev.now _
  · obtain ⟨hl', hx'⟩ := hb (by omega)
    obtain ⟨q, hq, q1, q2, hb2⟩ := szObj_ev a vs hv r (by omega) (by omega)
    simp only [if_neg c, hq, Option.bind_some]
    by_cases d : q < 0
    · simp only [if_pos d]; exact Ev.now _
    · have hv' := hb2 (by omega)
      simp only [if_neg d]
      have t := toStrs_ev l hl'
      have o := toObj_ev a vs hv'
      refine evThen t (fun k => rfl) (evThen o (fun k => rfl) (evThen (sObj l a vs hl' hx) (fun k => rfl) (evThen t (fun k => rfl) (evThen o (fun k => rfl) ?_))))
      simp only [iObj, Option.bind_some, bne_self_eq_false, Bool.false_eq_true, if_false]
      refine evThen t (fun k => rfl) (evThen (eqStrs_refl l hl) (fun k => rfl) ?_)
      simp only [if_true]
      refine evThen o (fun k => rfl) (evThen (eqObj_refl a vs hv) (fun k => rfl) ?_)
      simp only [if_true]
      exact Ev.now _
end Go.Proofs.YtknllhfhcgahiaaDoor.Pure
