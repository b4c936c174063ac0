/- The program's Forwarded returns what the reference's returns, for all arguments. -/
import Derived.Test.YtknllhfhcgahiaaDoorPFnExactForwardedx0
import Derived.Test.YtknllhfhcgahiaaDoorPFnExactForwardedx1
import Derived.Test.YtknllhfhcgahiaaDoorPFnExactForwardedx2
import Derived.Test.YtknllhfhcgahiaaDoorPFnExactForwardedx3
import Derived.Test.YtknllhfhcgahiaaDoorPFnExactForwardedx4
import Derived.Test.YtknllhfhcgahiaaDoorPFnExactForwardedx5
import Derived.Test.YtknllhfhcgahiaaDoorPFnExactForwardedx6
namespace Go.Proofs.YtknllhfhcgahiaaDoor.Pure
open Go.RowKit Go.Proofs.YtknllhfhcgahiaaDoor.PFnExactForwarded Go.Proofs.YtknllhfhcgahiaaDoorW.PrintWords Go.Proofs.YtknllhfhcgahiaaDoorW.PrintLast
set_option linter.unusedVariables false
set_option linter.unusedSimpArgs false
theorem w64 {n : Int} (h0 : -9223372036854775808 ≤ n) (h1 : n ≤ 9223372036854775807) : wrap64 n = n := by unfold wrap64; omega
theorem evThen {α β : Type} {g : Nat → Option α} {h : Nat → Option β} {f : Nat → α → Option β} {a : α} {r : β} (e : Ev g a) (he : ∀ k, h k = (g k).bind (f k)) (k : Ev (fun n => f n a) r) : Ev h r := Ev.congr he (Ev.bind e k)
theorem evIs {α : Type} {g : Nat → Option α} {r : α} (h : ∀ k, g k = some r) : Ev g r := ⟨0, fun k _ => h k⟩
theorem evIs1 {α : Type} {g : Nat → Option α} {r : α} (h : ∀ k, g (k + 1) = some r) : Ev g r := ⟨1, fun k hk => by cases k with | zero => omega | succ k => exact h k⟩
theorem rdS (l : List ByteArray) (i : Nat) (h : i < l.length) : rdOf ByteArray.empty l (i : Int) = l[i] := by
  unfold rdOf; rw [Int.toNat_natCast, List.getD_eq_getElem?_getD, List.getElem?_eq_getElem h]; rfl
theorem szStringS_l (l : List ByteArray) (hl : l.length ≤ 9223372036854775807) (hx : ∀ s ∈ l, s.size ≤ 9223372036854775807) : ∀ (n : Nat) (left : Int) (i : Nat), i + n = l.length → 0 ≤ left → left ≤ 1048576 → ∃ r, Ev (fun k => laws_szStringS.l0 k l left (i : Int)) r ∧ r ≤ left ∧ -1 ≤ r ∧ (0 ≤ r → ∀ s ∈ l.drop i, s.size ≤ 1048576) := by
  intro n
  induction n with
  | zero => intro left i hi h0 h1; exact ⟨left, evIs1 (fun k => by simp only [laws_szStringS.l0]; rw [if_neg (by omega)]), by omega, by omega, fun _ => by rw [List.drop_eq_nil_iff.2 (by omega)]; intro s hs; cases hs⟩
  | succ n ih =>
    intro left i hi h0 h1
    have hil : i < l.length := by omega
    have hb := hx _ (List.getElem_mem hil)
    by_cases c : left - ((l[i]).size : Int) < 0
    · refine ⟨-1, evIs1 (fun k => ?_), by omega, by omega, by omega⟩
      simp only [laws_szStringS.l0]
      rw [if_pos (by omega), if_pos (by omega), rdS l i hil, if_pos (by rw [w64 (by omega) (by omega)]; exact c)]
    · obtain ⟨z, hz, z1, z2, z3⟩ := ih (left - ((l[i]).size : Int)) (i + 1) (by omega) (by omega) (by omega)
      refine ⟨z, Ev.step (f := fun k => laws_szStringS.l0 k l (left - ((l[i]).size : Int)) ((i + 1 : Nat) : Int)) (fun k => ?_) hz, by omega, z2, fun hz0 => ?_⟩
      · simp only [laws_szStringS.l0]
        rw [if_pos (by omega), if_pos (by omega), rdS l i hil, w64 (n := left - ((l[i]).size : Int)) (by omega) (by omega), if_neg c, w64 (by omega) (by omega)]
        rfl
      · rw [List.drop_eq_getElem_cons hil]
        intro s hs
        rcases List.mem_cons.1 hs with rfl | hs
        · omega
        · exact z3 hz0 s hs
theorem szStringS_ev (l : List ByteArray) (hl : l.length ≤ 9223372036854775807) (hx : ∀ s ∈ l, s.size ≤ 9223372036854775807) (left : Int) (h0 : left ≤ 1048576) (h1 : 0 ≤ left) : ∃ r, Ev (fun k => laws_szStringS.f k l left) r ∧ r ≤ left ∧ -1 ≤ r ∧ (0 ≤ r → l.length ≤ 1048576 ∧ ∀ s ∈ l, s.size ≤ 1048576) := by
  have e : wrap64 (left - (l.length : Int)) = left - (l.length : Int) := w64 (by omega) (by omega)
  by_cases c : left - (l.length : Int) < 0
  · exact ⟨-1, evIs fun k => by unfold laws_szStringS.f; rw [e, if_pos c], by omega, by omega, by omega⟩
  · obtain ⟨r, hr, r1, r2, r3⟩ := szStringS_l l hl hx l.length (left - (l.length : Int)) 0 (by omega) (by omega) (by omega)
    exact ⟨r, Ev.congr (fun k => by unfold laws_szStringS.f; rw [e, if_neg c]; rfl) hr, by omega, r2, fun h => ⟨by omega, fun s hs => r3 h s (by simpa using hs)⟩⟩
theorem toStrs_l (l : List ByteArray) (hl : l.length ≤ 1048576) : ∀ (n i : Nat), i + n = l.length → Ev (fun k => laws_toStringS.l0 k l (l.take i ++ List.replicate n (⟨#[]⟩ : ByteArray)) (i : Int)) l := by
  intro n
  induction n with
  | zero =>
    intro i hi
    refine evIs1 (fun k => ?_)
    simp only [laws_toStringS.l0]
    rw [if_neg (by omega), List.take_of_length_le (by omega)]
    simp
  | succ n ih =>
    intro i hi
    have h := ih (i + 1) (by omega)
    refine Ev.step (f := fun k => laws_toStringS.l0 k l (l.take (i + 1) ++ List.replicate n (⟨#[]⟩ : ByteArray)) ((i + 1 : Nat) : Int)) (fun k => ?_) h
    simp only [laws_toStringS.l0]
    have hlen : (l.take i ++ List.replicate (n + 1) (⟨#[]⟩ : ByteArray)).length = l.length := by simp; omega
    have hi' : i < l.length := by omega
    rw [if_pos (by omega), if_pos (by omega), if_pos (by rw [hlen]; omega), w64 (by omega) (by omega), rdS l i hi']
    congr 1
    have hm : (l.take i).length = i := by simp; omega
    rw [Int.toNat_natCast, List.set_append_right _ _ (by omega), hm, Nat.sub_self, List.replicate_succ, List.set_cons_zero, List.take_add_one, List.append_assoc]
    congr 1
    simp [hi']
theorem toStrs_ev (l : List ByteArray) (hl : l.length ≤ 1048576) : Ev (fun k => laws_toStringS.f k l) l := by
  have h := toStrs_l l hl l.length 0 (by omega)
  refine Ev.congr (fun k => ?_) h
  unfold laws_toStringS.f
  rw [if_pos (by omega), if_pos (by omega)]
  simp
theorem eqStrs_refl (l : List ByteArray) : laws_eqStringS.f l l = some true := by unfold laws_eqStringS.f; rw [if_pos rfl]
theorem szObj_ev (a : Int) (l : List Int) (hl : l.length ≤ 9223372036854775807) (left : Int) (h0 : left ≤ 1048576) (h1 : 0 ≤ left) : ∃ r, laws_szObj.f a l left = some r ∧ r ≤ left ∧ -1 ≤ r ∧ (0 ≤ r → l.length ≤ 1048576) := by
  have e : wrap64 (left - (l.length : Int)) = left - (l.length : Int) := w64 (by omega) (by omega)
  unfold laws_szObj.f laws_szInt64S.f
  rw [e]
  by_cases c : left - (l.length : Int) < 0
  · exact ⟨-1, by rw [if_pos c, Option.bind_some, if_pos (by decide)], by omega, by omega, by omega⟩
  · exact ⟨left - (l.length : Int), by rw [if_neg c, Option.bind_some, if_neg c], by omega, by omega, fun _ => by omega⟩
theorem toInts_l (l : List Int) (hl : l.length ≤ 1048576) : ∀ (n i : Nat), i + n = l.length → Ev (fun k => laws_toInt64S.l0 k l (l.take i ++ List.replicate n 0) (i : Int)) l := by
  intro n
  induction n with
  | zero =>
    intro i hi
    refine Ev.step (f := fun _ => some l) (fun k => ?_) (Ev.now _)
    simp only [laws_toInt64S.l0]
    rw [if_neg (by omega), List.take_of_length_le (by omega)]
    simp
  | succ n ih =>
    intro i hi
    have h := ih (i + 1) (by omega)
    refine Ev.step (f := fun k => laws_toInt64S.l0 k l (l.take (i + 1) ++ List.replicate n 0) ((i + 1 : Nat) : Int)) (fun k => ?_) h
    simp only [laws_toInt64S.l0]
    have hlen : (l.take i ++ List.replicate (n + 1) (0 : Int)).length = l.length := by simp; omega
    rw [if_pos (by omega), if_pos (by omega), if_pos (by rw [hlen]; omega), w64 (by omega) (by omega)]
    congr 1
    have hm : (l.take i).length = i := by simp; omega
    rw [Int.toNat_natCast, List.set_append_right _ _ (by omega), hm, Nat.sub_self, List.replicate_succ, List.set_cons_zero, List.take_add_one, List.append_assoc]
    congr 1
    have hi' : i < l.length := by omega
    simp [rd, rdOf, List.getD, hi']
theorem toInts_ev (l : List Int) (hl : l.length ≤ 1048576) : Ev (fun k => laws_toInt64S.f k l) l := by
  have h := toInts_l l hl l.length 0 (by omega)
  refine Ev.congr (fun k => ?_) h
  unfold laws_toInt64S.f
  rw [if_pos (by omega), if_pos (by omega)]
  simp
theorem toObj_ev (a : Int) (l : List Int) (hl : l.length ≤ 1048576) : Ev (fun k => laws_toObj.f k a l) (a, l) :=
  evThen (toInts_ev l hl) (fun k => rfl) (evIs fun k => rfl)
theorem eqInts_l (l : List Int) (hl : l.length ≤ 9223372036854775807) : ∀ (n i : Nat), i + n = l.length → Ev (fun k => laws_eqInt64S.l0 k l l (i : Int)) true := by
  intro n
  induction n with
  | zero =>
    intro i hi
    exact Ev.step (f := fun _ => some true) (fun k => by simp only [laws_eqInt64S.l0]; rw [if_neg (by omega)]) (Ev.now _)
  | succ n ih =>
    intro i hi
    refine Ev.step (f := fun k => laws_eqInt64S.l0 k l l ((i + 1 : Nat) : Int)) (fun k => ?_) (ih (i + 1) (by omega))
    simp only [laws_eqInt64S.l0]
    rw [if_pos (by omega), if_pos (by omega), if_pos (by omega), if_pos trivial, w64 (by omega) (by omega)]
    rfl
theorem eqInts_refl (l : List Int) (hl : l.length ≤ 9223372036854775807) : Ev (fun k => laws_eqInt64S.f k l l) true :=
  Ev.congr (fun k => by unfold laws_eqInt64S.f; rw [if_pos rfl]; rfl) (eqInts_l l hl l.length 0 (by omega))
theorem eqObj_refl (a : Int) (l : List Int) (hl : l.length ≤ 9223372036854775807) : Ev (fun k => laws_eqObj.f k a l a l) true :=
  evThen (eqInts_refl l hl) (fun k => by unfold laws_eqObj.f; rw [if_pos rfl]) (evIs fun k => by rw [if_pos rfl])
theorem sIn (a b c : Int) : spec_l1In.f a b c = some (decide (b ≤ a ∧ a ≤ c)) := by
  unfold spec_l1In.f
  by_cases h : a ≥ b
  · rw [if_pos h]; congr 1; rw [decide_eq_decide]; omega
  · rw [if_neg h]; congr 1; symm; rw [decide_eq_false_iff_not]; omega
theorem ok_at (s : ByteArray) (i : Nat) (h : i < s.size) (h' : i < s.data.toList.length) : impl_isType.ok (s.data.toList[i]) = (decide (bt s (i : Int) = 105) || decide (bt s (i : Int) = 114)) := by
  have e : bt s (i : Int) = ((s.data.toList[i]).toNat : Int) := by
    rw [← bt_at s (i : Int) (by rw [Int.toNat_natCast]; exact h)]
    simp only [Int.toNat_natCast, Array.getElem_toList]; rfl
  rw [e]
  generalize s.data.toList[i] = b
  unfold impl_isType.ok
  have g : ∀ n : UInt8, (b == n) = decide ((b.toNat : Int) = (n.toNat : Int)) := by
    intro n
    by_cases hb : b = n
    · subst hb; simp
    · have : ¬ ((b.toNat : Int) = (n.toNat : Int)) := fun q => hb (UInt8.toNat_inj.1 (by omega))
      simp [hb, this]
  rw [g 105, g 114]; rfl
theorem sTyp_l (s : ByteArray) (hs : s.size ≤ 9223372036854775807) : ∀ (n i : Nat), i + n = s.size → Ev (fun k => spec_l3Type.l0 k s (i : Int)) (decide (1 ≤ (s.size : Int) ∧ (s.size : Int) ≤ 23) && (s.data.toList.drop i).all impl_isType.ok) := by
  intro n
  have hl : s.data.toList.length = s.size := Array.length_toList
  induction n with
  | zero =>
    intro i hi
    refine evIs1 fun k => ?_
    simp only [spec_l3Type.l0]
    rw [if_neg (by omega), sIn, Option.bind_some, List.drop_eq_nil_iff.2 (by omega), List.all_nil, Bool.and_true]
  | succ n ih =>
    intro i hi
    have ih := ih (i + 1) (by omega)
    have hil : i < s.data.toList.length := by omega
    have e := ok_at s i (by omega) hil
    rw [List.drop_eq_getElem_cons hil, List.all_cons, e]
    by_cases c1 : bt s (i : Int) = 105
    · rw [decide_eq_true c1, Bool.true_or, Bool.true_and]
      refine Ev.step (f := fun k => spec_l3Type.l0 k s ((i + 1 : Nat) : Int)) (fun k => ?_) ih
      simp only [spec_l3Type.l0]
      rw [if_pos (by omega), if_pos (by omega), if_pos c1, w64 (by omega) (by omega)]; rfl
    · by_cases c2 : bt s (i : Int) = 114
      · rw [decide_eq_true c2, Bool.or_true, Bool.true_and]
        refine Ev.step (f := fun k => spec_l3Type.l0 k s ((i + 1 : Nat) : Int)) (fun k => ?_) ih
        simp only [spec_l3Type.l0]
        rw [if_pos (by omega), if_pos (by omega), if_neg c1, if_pos c2, w64 (by omega) (by omega)]; rfl
      · rw [decide_eq_false c1, decide_eq_false c2, Bool.or_false, Bool.false_and, Bool.and_false]
        refine evIs1 fun k => ?_
        simp only [spec_l3Type.l0]
        rw [if_pos (by omega), if_pos (by omega), if_neg c1, if_neg c2]
theorem sTyp (s : ByteArray) (hs : s.size ≤ 9223372036854775807) : Ev (fun k => spec_l3Type.f k s) (impl_isType.g s) :=
  Ev.congr (fun k => rfl) (sTyp_l s hs s.size 0 (by omega))
theorem sTys_l (l : List ByteArray) (hl : l.length ≤ 9223372036854775807) (hx : ∀ s ∈ l, s.size ≤ 9223372036854775807) : ∀ (n i : Nat), i + n = l.length → Ev (fun k => spec_TypesOk.l0 k l (i : Int)) ((l.drop i).all impl_isType.g) := by
  intro n
  induction n with
  | zero =>
    intro i hi
    exact evIs1 (fun k => by simp only [spec_TypesOk.l0]; rw [if_neg (by omega), List.drop_eq_nil_iff.2 (by omega)]; rfl)
  | succ n ih =>
    intro i hi
    have hil : i < l.length := by omega
    have ih := ih (i + 1) (by omega)
    have ht := sTyp l[i] (hx _ (List.getElem_mem hil))
    rw [List.drop_eq_getElem_cons hil, List.all_cons]
    refine Ev.step (f := fun k => (spec_l3Type.f k l[i]).bind fun t => if t = true then spec_TypesOk.l0 k l ((i + 1 : Nat) : Int) else some false) (fun k => ?_) ?_
    · simp only [spec_TypesOk.l0]
      rw [if_pos (by omega), if_pos (by omega), rdS l i hil, w64 (by omega) (by omega)]; rfl
    · refine evThen ht (fun k => rfl) ?_
      by_cases c : impl_isType.g l[i] = true
      · rw [c, Bool.true_and]; simp only [if_true]; exact ih
      · rw [Bool.eq_false_iff.2 c, Bool.false_and]; exact evIs fun k => rfl
theorem sTys (l : List ByteArray) (hl : l.length ≤ 9223372036854775807) (hx : ∀ s ∈ l, s.size ≤ 9223372036854775807) : Ev (fun k => spec_TypesOk.f k l) (impl_TypesOk.g l) := by
  have e : ∀ k, spec_TypesOk.f k l = if (decide (1 ≤ (l.length : Int) ∧ (l.length : Int) ≤ 12)) = true then spec_TypesOk.l0 k l 0 else some false := fun k => by
    unfold spec_TypesOk.f; rw [sIn, Option.bind_some]
  unfold impl_TypesOk.g
  by_cases c : 1 ≤ (l.length : Int) ∧ (l.length : Int) ≤ 12
  · rw [decide_eq_true c, Bool.true_and]
    refine Ev.congr (fun k => ?_) (sTys_l l hl hx l.length 0 (by omega))
    rw [e k, decide_eq_true c, if_pos rfl]; rfl
  · rw [decide_eq_false c, Bool.false_and]
    exact evIs fun k => by rw [e k, decide_eq_false c]; rfl
def rkP (n : Int) : Int := if n = 0 then 0 else if 2 ≤ n ∧ n ≤ 254 ∧ Int.tmod n 2 = 0 then 1 else if 1 ≤ n ∧ n ≤ 799 ∧ Int.tmod n 2 = 1 then 2 else -1
theorem rk1 (k : Nat) (n : Int) : spec_RefKind.f (k + 9) n = some (rkP n) := by
  unfold spec_RefKind.f spec_l1In.f rkP
  by_cases h0 : n = 0
  · simp [h0]
  · by_cases h1 : 2 ≤ n <;> by_cases h2 : n ≤ 254 <;> by_cases h3 : Int.tmod n 2 = 0 <;> by_cases h4 : 1 ≤ n <;> by_cases h5 : n ≤ 799 <;> by_cases h6 : Int.tmod n 2 = 1 <;> first | (exfalso; omega) | simp [spec_RefKind.j0, spec_l1In.f, h0, h1, h2, h3, h4, h5, h6]
theorem sRK_ev (n : Int) : Ev (fun k => spec_RefKind.f k n) (rkP n) := ⟨9, fun k hk => by obtain ⟨j, rfl⟩ := Nat.exists_eq_add_of_le hk; rw [Nat.add_comm]; exact rk1 j n⟩
theorem ref_rk (n : Int) : impl_ObjOk.ref n = !decide (rkP n < 0) := by
  unfold impl_ObjOk.ref rkP
  by_cases h0 : n = 0
  · simp [h0]
  · by_cases h1 : 2 ≤ n ∧ n ≤ 254 ∧ Int.tmod n 2 = 0
    · rw [if_neg h0, if_pos h1]; simp [h1]
    · by_cases h2 : 1 ≤ n ∧ n ≤ 799 ∧ Int.tmod n 2 = 1
      · rw [if_neg h0, if_neg h1, if_pos h2]; simp [h2]
      · rw [if_neg h0, if_neg h1, if_neg h2]; simp only [h0, h1, h2]; decide
theorem sObj_l (l : List ByteArray) (t : Int) (vs : List Int) (s : ByteArray) (h0 : 0 ≤ t) (h1 : t < (l.length : Int)) (hs : rdOf ByteArray.empty l t = s) (hv : (vs.length : Int) = (s.size : Int)) (hb : s.size ≤ 9223372036854775807) : ∀ (n i : Nat), i + n = vs.length → Ev (fun k => spec_ObjOk.l0 k l (i : Int) t vs) ((List.range' i n).all (impl_ObjOk.one s vs)) := by
  intro n
  induction n with
  | zero =>
    intro i hi
    exact evIs1 (fun k => by simp only [spec_ObjOk.l0]; rw [if_neg (by omega)]; rfl)
  | succ n ih =>
    intro i hi
    have ih := ih (i + 1) (by omega)
    rw [List.range'_succ, List.all_cons]
    have e : ∀ k, spec_ObjOk.l0 (k + 1) l (i : Int) t vs = if bt s (i : Int) = 114 then ((spec_RefKind.f k (rd vs (i : Int))).bind fun z => (if z < 0 then (some false) else spec_ObjOk.l0 k l ((i + 1 : Nat) : Int) t vs)) else spec_ObjOk.l0 k l ((i + 1 : Nat) : Int) t vs := by
      intro k
      simp only [spec_ObjOk.l0]
      rw [if_pos (by omega), if_pos h0, if_pos h1, hs, if_pos (by omega), if_pos (by omega), w64 (by omega) (by omega)]; rfl
    by_cases c : bt s (i : Int) = 114
    · refine Ev.step (f := fun k => (spec_RefKind.f k (rd vs (i : Int))).bind fun z => (if z < 0 then (some false) else spec_ObjOk.l0 k l ((i + 1 : Nat) : Int) t vs)) (fun k => by rw [e k, if_pos c]) ?_
      refine evThen (sRK_ev (rd vs (i : Int))) (fun k => rfl) ?_
      by_cases d : rkP (rd vs (i : Int)) < 0
      · have : impl_ObjOk.one s vs i = false := by unfold impl_ObjOk.one; rw [ref_rk, decide_eq_true c, decide_eq_true d]; rfl
        rw [this, Bool.false_and]; exact evIs fun k => by rw [if_pos d]
      · have : impl_ObjOk.one s vs i = true := by unfold impl_ObjOk.one; rw [ref_rk, decide_eq_false d, Bool.or_eq_true]; exact Or.inr rfl
        rw [this, Bool.true_and]; exact Ev.congr (fun k => by rw [if_neg d]) ih
    · have : impl_ObjOk.one s vs i = true := by unfold impl_ObjOk.one; rw [decide_eq_false c]; rfl
      rw [this, Bool.true_and]
      exact Ev.step (f := fun k => spec_ObjOk.l0 k l ((i + 1 : Nat) : Int) t vs) (fun k => by rw [e k, if_neg c]) ih
theorem sObj (l : List ByteArray) (t : Int) (vs : List Int) (hl : l.length ≤ 1048576) (hx : ∀ s ∈ l, s.size ≤ 9223372036854775807) : Ev (fun k => spec_ObjOk.f k l t vs) (impl_ObjOk.g l t vs) := by
  refine evThen (sTys l (by omega) hx) (fun k => rfl) ?_
  unfold impl_ObjOk.g
  by_cases c1 : impl_TypesOk.g l = true
  · rw [c1, Bool.true_and]; simp only [if_true]
    unfold impl_ObjOk.is
    refine Ev.congr (fun k => by rw [sIn, Option.bind_some, w64 (by omega) (by omega)]) ?_
    by_cases c2 : 0 ≤ t ∧ t ≤ (l.length : Int) - 1
    · rw [decide_eq_true c2, Bool.true_and]
      simp only [if_true, if_pos c2.1, if_pos (show t < (l.length : Int) by omega)]
      have hb : (rdOf ByteArray.empty l t).size ≤ 9223372036854775807 := by
        unfold rdOf; rw [List.getD_eq_getElem?_getD, List.getElem?_eq_getElem (by omega)]; exact hx _ (List.getElem_mem _)
      unfold impl_ObjOk.vals
      by_cases c3 : (vs.length : Int) = ((rdOf ByteArray.empty l t).size : Int)
      · rw [decide_eq_true c3, Bool.true_and, List.range_eq_range', bne_eq_false_iff_eq.mpr c3]
        refine Ev.step (f := fun k => spec_ObjOk.l0 k l 0 t vs) (fun k => by simp only [spec_ObjOk.j0]; rw [if_neg (by decide)]) ?_
        exact sObj_l l t vs _ c2.1 (by omega) rfl c3 hb vs.length 0 (by omega)
      · rw [decide_eq_false c3, Bool.false_and, bne_iff_ne.mpr c3]
        exact evIs1 fun k => by simp only [spec_ObjOk.j0]; rw [if_pos trivial]
    · rw [decide_eq_false c2, Bool.false_and]
      exact Ev.congr (fun k => by rw [if_neg (by decide)]) (evIs1 fun k => by simp only [spec_ObjOk.j0]; rw [if_pos trivial])
  · rw [Bool.eq_false_iff.2 c1, Bool.false_and]
    exact Ev.congr (fun k => by rw [if_neg (by decide)]) (evIs1 fun k => by simp only [spec_ObjOk.j0]; rw [if_pos trivial])
/-- where an object goes -/
def toP (f t : List Int) (v : Int) : Int := if 0 ≤ impl_Forwarded.ix f v 0 then rd t (impl_Forwarded.ix f v 0) else v
def fwP (l : List ByteArray) (a : Int) (vs f t : List Int) : Int × List Int := if impl_Forwarded.ok l a vs f t = true then (a, (List.range vs.length).map (impl_Forwarded.one (rdOf ByteArray.empty l a) vs f t)) else (0, [])
theorem iFw (l : List ByteArray) (a : Int) (vs f t : List Int) : impl_Forwarded.f l a vs f t = some (fwP l a vs f t) := rfl
theorem sTo_l (f t : List Int) (v : Int) (hft : f.length = t.length) (hf : f.length ≤ 400) : ∀ (n i : Nat), i + n = f.length → Ev (fun k => spec_l4To.l0 k v f t (i : Int)) (if 0 ≤ impl_Forwarded.ix (f.drop i) v i then rd t (impl_Forwarded.ix (f.drop i) v i) else v) := by
  intro n
  induction n with
  | zero =>
    intro i hi
    refine evIs1 (fun k => ?_)
    simp only [spec_l4To.l0]
    rw [if_neg (by omega), List.drop_of_length_le (by omega)]
    rfl
  | succ n ih =>
    intro i hi
    have hi' : i < f.length := by omega
    have hr : rd f (i : Int) = f[i] := impl_Forwarded.rd_at f i hi'
    rw [List.drop_eq_getElem_cons hi', impl_Forwarded.ix]
    by_cases c : v = f[i]
    · rw [if_pos c]
      refine evIs1 (fun k => ?_)
      simp only [spec_l4To.l0]
      rw [if_pos (by omega), if_pos (by omega), hr, if_pos c.symm, if_pos (by omega), if_pos (by omega)]
    · rw [if_neg c]
      refine Ev.step (f := fun k => spec_l4To.l0 k v f t ((i + 1 : Nat) : Int)) (fun k => ?_) (ih (i + 1) (by omega))
      simp only [spec_l4To.l0]
      rw [if_pos (by omega), if_pos (by omega), hr, if_neg (fun z => c z.symm), w64 (by omega) (by omega)]
      rfl
theorem sTo (f t : List Int) (v : Int) (hft : f.length = t.length) (hf : f.length ≤ 400) : Ev (fun k => spec_l4To.f k v f t) (toP f t v) := sTo_l f t v hft hf f.length 0 (by omega)
theorem sFwd_l (l : List ByteArray) (a : Int) (vs f t : List Int) (s : ByteArray) (h0 : 0 ≤ a) (h1 : a < (l.length : Int)) (hs : rdOf ByteArray.empty l a = s) (hv : vs.length = s.size) (hb : vs.length ≤ 1000) (hft : f.length = t.length) (hf : f.length ≤ 400) : ∀ (n i : Nat) (acc : List Int), i + n = vs.length → acc.length = i → Ev (fun k => spec_l4Forward.l0 k l f t (i : Int) a vs a acc) (a, acc ++ (List.range' i n).map (impl_Forwarded.one s vs f t)) := by
  intro n
  induction n with
  | zero =>
    intro i acc hi ha
    refine evIs1 (fun k => ?_)
    simp only [spec_l4Forward.l0]
    rw [if_neg (by omega)]
    simp
  | succ n ih =>
    intro i acc hi ha
    have ih := fun x => ih (i + 1) (acc ++ [x]) (by omega) (by simp; omega)
    have e : ∀ k, spec_l4Forward.l0 (k + 1) l f t (i : Int) a vs a acc = if bt s (i : Int) = 114 then ((spec_l4To.f k (rd vs (i : Int)) f t).bind fun z => spec_l4Forward.l0 k l f t ((i + 1 : Nat) : Int) a vs a (acc ++ [z])) else spec_l4Forward.l0 k l f t ((i + 1 : Nat) : Int) a vs a (acc ++ [rd vs (i : Int)]) := by
      intro k
      simp only [spec_l4Forward.l0]
      rw [if_pos (by omega), if_pos (by omega), if_pos h0, if_pos h1, hs, if_pos (by omega), w64 (by omega) (by omega)]
      simp only [if_pos (show acc.length < 17592186044416 by omega)]
      rfl
    rw [List.range'_succ, List.map_cons]
    by_cases c : bt s (i : Int) = 114
    · have eo : impl_Forwarded.one s vs f t i = toP f t (rd vs (i : Int)) := by
        unfold impl_Forwarded.one toP
        by_cases g : 0 ≤ impl_Forwarded.ix f (rd vs (i : Int)) 0
        · rw [if_pos ⟨g, c⟩, if_pos g]
        · rw [if_neg (fun z => g z.1), if_neg g]
      refine Ev.step (f := fun k => (spec_l4To.f k (rd vs (i : Int)) f t).bind fun z => spec_l4Forward.l0 k l f t ((i + 1 : Nat) : Int) a vs a (acc ++ [z])) (fun k => by rw [e k, if_pos c]) ?_
      refine evThen (sTo f t (rd vs (i : Int)) hft hf) (fun k => rfl) ?_
      have := ih (toP f t (rd vs (i : Int)))
      rw [List.append_assoc, List.singleton_append] at this
      rw [eo]; exact this
    · have eo : impl_Forwarded.one s vs f t i = rd vs (i : Int) := by
        unfold impl_Forwarded.one
        rw [if_neg (fun z => c z.2)]
      refine Ev.step (f := fun k => spec_l4Forward.l0 k l f t ((i + 1 : Nat) : Int) a vs a (acc ++ [rd vs (i : Int)])) (fun k => by rw [e k, if_neg c]) ?_
      have := ih (rd vs (i : Int))
      rw [List.append_assoc, List.singleton_append] at this
      rw [eo]; exact this
theorem sFw_l (l : List ByteArray) (a : Int) (vs f t : List Int) (hg : impl_ObjOk.g l a vs = true) (hft : f.length = t.length) (hf : f.length ≤ 400) : ∀ (n i : Nat), i + n = t.length → Ev (fun k => spec_Forwarded.l0 k l f t (i : Int) a vs) (if (t.drop i).all impl_ObjOk.ref = true then (a, (List.range vs.length).map (impl_Forwarded.one (rdOf ByteArray.empty l a) vs f t)) else (0, [])) := by
  obtain ⟨g0, g1, g2, g3⟩ := impl_Forwarded.obj hg
  intro n
  induction n with
  | zero =>
    intro i hi
    rw [List.drop_of_length_le (by omega), List.all_nil, if_pos rfl, List.range_eq_range']
    refine Ev.step (f := fun k => (spec_l4Forward.f k l a vs f t).bind fun z => some (z.1, z.2)) (fun k => by simp only [spec_Forwarded.l0]; rw [if_neg (by omega)]) ?_
    exact evThen (sFwd_l l a vs f t _ g0 g1 rfl g2 (by omega) hft hf vs.length 0 [] (by omega) rfl) (fun k => rfl) (evIs fun k => rfl)
  | succ n ih =>
    intro i hi
    have hi' : i < t.length := by omega
    have hr : rd t (i : Int) = t[i] := impl_Forwarded.rd_at t i hi'
    rw [List.drop_eq_getElem_cons hi', List.all_cons, ref_rk]
    refine Ev.step (f := fun k => (spec_RefKind.f k t[i]).bind fun z => if z < 0 then some (0, ([] : List Int)) else spec_Forwarded.l0 k l f t ((i + 1 : Nat) : Int) a vs) (fun k => by simp only [spec_Forwarded.l0]; rw [if_pos (by omega), if_pos (by omega), hr, w64 (by omega) (by omega)]; rfl) ?_
    refine evThen (sRK_ev t[i]) (fun k => rfl) ?_
    by_cases d : rkP t[i] < 0
    · simp only [if_pos d, decide_eq_true d, Bool.not_true, Bool.false_and, Bool.false_eq_true, if_false]; exact Ev.now _
    · simp only [if_neg d, decide_eq_false d, Bool.not_false, Bool.true_and]
      exact ih (i + 1) (by omega)
theorem sFw (l : List ByteArray) (a : Int) (vs f t : List Int) (hl : l.length ≤ 1048576) (hx : ∀ s ∈ l, s.size ≤ 9223372036854775807) : Ev (fun k => spec_Forwarded.f k l a vs f t) (fwP l a vs f t) := by
  have no : ∀ d : Bool, d = true → Ev (fun k => spec_Forwarded.j0 k l f t d a vs) (0, ([] : List Int)) := fun d hd => evIs1 fun k => by subst hd; simp only [spec_Forwarded.j0]; rw [if_pos trivial]
  refine evThen (sObj l a vs hl hx) (fun k => rfl) ?_
  unfold fwP impl_Forwarded.ok
  by_cases c1 : impl_ObjOk.g l a vs = true
  · rw [c1, Bool.true_and]
    simp only [if_true]
    by_cases c2 : (f.length : Int) = (t.length : Int)
    · rw [decide_eq_true c2, Bool.true_and]
      simp only [if_pos c2]
      by_cases c3 : (f.length : Int) > 400
      · rw [show decide (t.length ≤ 400) = false from decide_eq_false (by omega), Bool.false_and, if_neg (by decide)]
        exact no _ (decide_eq_true c3)
      · rw [show decide (t.length ≤ 400) = true from decide_eq_true (by omega), Bool.true_and, decide_eq_false c3]
        refine Ev.step (f := fun k => spec_Forwarded.l0 k l f t 0 a vs) (fun k => by simp only [spec_Forwarded.j0]; rw [if_neg (by decide)]) ?_
        exact sFw_l l a vs f t c1 (by omega) (by omega) t.length 0 (by omega)
    · rw [decide_eq_false c2, Bool.false_and, if_neg (by decide)]
      simp only [if_neg c2]
      exact no _ rfl
  · rw [Bool.eq_false_iff.2 c1, Bool.false_and, if_neg (by decide)]
    exact Ev.congr (fun k => by rw [if_neg (by decide)]) (no _ rfl)
theorem fwP_len (l : List ByteArray) (a : Int) (vs f t : List Int) : (fwP l a vs f t).2.length ≤ vs.length := by
  unfold fwP
  split
  · simp
  · exact Nat.zero_le _
theorem markText_l : ∀ (n : Nat) (x : Int) (t : ByteArray), x < 10 ^ n → x ≤ 1000000000 → t.size + n ≤ 1000 → ∃ r, Ev (fun k => laws_markText.l0 k x t) r := by
  intro n
  induction n with
  | zero =>
    intro x t h _ ht
    exact ⟨_, Ev.step (f := fun _ => some _) (fun k => by simp only [laws_markText.l0]; rw [if_neg (by simp at h; omega), if_pos (by omega)]) (Ev.now _)⟩
  | succ n ih =>
    intro x t h hx ht
    by_cases c : x > 0
    · have hs : ∀ z : Int, (strOfNums [z]).size = 1 := fun z => by rw [strOfNums_size]; rfl
      have hd : Int.tdiv x 10 = x / 10 := Int.tdiv_eq_ediv_of_nonneg (by omega)
      obtain ⟨r, hr⟩ := ih (x / 10) (strOfNums [(wrap64 (48 + (Int.tmod x 10))) % 256] ++ t) (by rw [Int.pow_succ] at h; omega) (by omega) (by rw [ByteArray.size_append, hs]; omega)
      refine ⟨r, Ev.step (f := fun k => laws_markText.l0 k (x / 10) (strOfNums [(wrap64 (48 + (Int.tmod x 10))) % 256] ++ t)) (fun k => ?_) hr⟩
      simp only [laws_markText.l0]
      rw [if_pos c, Option.bind_some, if_pos (by rw [hs]; omega), hd, w64 (by omega) (by omega)]
    · exact ⟨_, Ev.step (f := fun _ => some _) (fun k => by simp only [laws_markText.l0]; rw [if_neg c, if_pos (by omega)]) (Ev.now _)⟩
theorem markText_ev (a : Int) (h : a ≤ 1000000000) : ∃ r, Ev (fun k => laws_markText.f k a) r := by
  by_cases c : a ≤ 0
  · exact ⟨_, evIs fun k => by unfold laws_markText.f; rw [if_pos c]⟩
  · obtain ⟨r, hr⟩ := markText_l 10 a (⟨#[]⟩ : ByteArray) (by omega) h (by decide)
    exact ⟨r, Ev.congr (fun k => by unfold laws_markText.f; rw [if_neg c]) hr⟩
/-- a, a + 1, .. n of them. -/
def cnt (a : Int) : Nat → List Int
  | 0 => []
  | n + 1 => a :: cnt (a + 1) n
theorem cnt_len : ∀ (n : Nat) (a : Int), (cnt a n).length = n
  | 0, _ => rfl
  | n + 1, a => by simp [cnt, cnt_len n]
theorem cnt_succ : ∀ (n : Nat) (a : Int), cnt a (n + 1) = cnt a n ++ [a + n]
  | 0, a => by simp [cnt]
  | n + 1, a => by
    show a :: cnt (a + 1) (n + 1) = _
    rw [cnt_succ n (a + 1)]
    simp [cnt]
    omega
theorem markInts_l (l : List Int) (hl : l.length ≤ 1048576) : ∀ (n i : Nat), i + n = l.length → Ev (fun k => laws_markInt64S.l0 k (cnt 1 i ++ l.drop i) (1 + (i : Int)) (i : Int)) (1 + (l.length : Int), cnt 1 l.length) := by
  intro n
  induction n with
  | zero =>
    intro i hi
    obtain rfl : i = l.length := by omega
    refine Ev.step (f := fun _ => some _) (fun k => ?_) (Ev.now _)
    simp only [laws_markInt64S.l0]
    rw [if_neg (by simp [cnt_len])]
    simp
  | succ n ih =>
    intro i hi
    have h := ih (i + 1) (by omega)
    refine Ev.step (f := fun k => laws_markInt64S.l0 k (cnt 1 (i + 1) ++ l.drop (i + 1)) (1 + ((i + 1 : Nat) : Int)) ((i + 1 : Nat) : Int)) (fun k => ?_) h
    simp only [laws_markInt64S.l0]
    rw [if_pos (by simp [cnt_len]; omega), if_pos (by omega), w64 (by omega) (by omega), w64 (by omega) (by omega), Int.toNat_natCast, List.set_append_right _ _ (by rw [cnt_len]; omega), cnt_len, Nat.sub_self, List.drop_eq_getElem_cons (by omega), List.set_cons_zero, cnt_succ, List.append_assoc]
    simp only [List.singleton_append]
    congr 1
theorem markInts_ev (l : List Int) (hl : l.length ≤ 1048576) : Ev (fun k => laws_markInt64S.f k l 1) (1 + (l.length : Int), cnt 1 l.length) := by
  have h := markInts_l l hl l.length 0 (by omega)
  simpa [cnt, laws_markInt64S.f] using h
theorem markObj_ev (a : Int) (l : List Int) (hl : l.length ≤ 1048576) : Ev (fun k => laws_markObj.f k a l 1) (1 + (l.length : Int), cnt 1 l.length) :=
  evThen (markInts_ev l hl) (fun k => rfl) (evIs fun k => rfl)
theorem cnt_get : ∀ (n : Nat) (a : Int) (i : Nat), i < n → (cnt a n)[i]? = some (a + i)
  | 0, _, _, h => absurd h (by omega)
  | n + 1, a, 0, _ => by simp [cnt]
  | n + 1, a, i + 1, h => by simp only [cnt, List.getElem?_cons_succ]; rw [cnt_get n (a + 1) i (by omega)]; congr 1; omega
theorem heldInts_l (m : Nat) (hm : m ≤ 1048576) : ∀ (n i : Nat), i + n = m → Ev (fun k => laws_heldInt64S.l0 k (cnt 1 m) (1 + (i : Int)) (i : Int)) (1 + (m : Int)) := by
  intro n
  induction n with
  | zero =>
    intro i hi
    obtain rfl : i = m := by omega
    refine Ev.step (f := fun _ => some _) (fun k => ?_) (Ev.now _)
    simp only [laws_heldInt64S.l0]
    rw [if_neg (by simp [cnt_len])]
  | succ n ih =>
    intro i hi
    have h := ih (i + 1) (by omega)
    refine Ev.step (f := fun k => laws_heldInt64S.l0 k (cnt 1 m) (1 + ((i + 1 : Nat) : Int)) ((i + 1 : Nat) : Int)) (fun k => ?_) h
    simp only [laws_heldInt64S.l0]
    rw [if_pos (by simp [cnt_len]; omega), if_pos (by omega), if_pos (by simp [rd, List.getD, cnt_get m 1 i (by omega)]), w64 (by omega) (by omega), w64 (by omega) (by omega)]
    congr 1
theorem heldInts_ev (m : Nat) (hm : m ≤ 1048576) : Ev (fun k => laws_heldInt64S.f k (cnt 1 m) 1) (1 + (m : Int)) := by
  have h := heldInts_l m hm m 0 (by omega)
  simpa [laws_heldInt64S.f] using h
theorem heldObj_ev (a : Int) (m : Nat) (hm : m ≤ 1048576) : Ev (fun k => laws_heldObj.f k a (cnt 1 m) 1) (1 + (m : Int)) :=
  evThen (heldInts_ev m hm) (fun k => rfl) (evIs fun k => by rw [if_neg (by omega)])
theorem markIntsB_l : ∀ (n : Nat) (l : List Int) (i : Nat) (a : Int), l.length ≤ 1048576 → i + n = l.length → 0 ≤ a → a + n ≤ 100000000 → ∃ r, Ev (fun k => laws_markInt64S.l0 k l a (i : Int)) r ∧ r.1 = a + n := by
  intro n
  induction n with
  | zero =>
    intro l i a _ hi ha _
    exact ⟨(a, l), Ev.step (f := fun _ => some (a, l)) (fun k => by simp only [laws_markInt64S.l0]; rw [if_neg (by omega)]) (Ev.now _), by simp⟩
  | succ n ih =>
    intro l i a hl hi ha hb
    obtain ⟨r, hr, h0⟩ := ih (l.set i a) (i + 1) (a + 1) (by simpa using hl) (by simp; omega) (by omega) (by omega)
    refine ⟨r, Ev.step (f := fun k => laws_markInt64S.l0 k (l.set i a) (a + 1) ((i + 1 : Nat) : Int)) (fun k => ?_) hr, by omega⟩
    simp only [laws_markInt64S.l0]
    rw [if_pos (by omega), if_pos (by omega), w64 (by omega) (by omega), w64 (by omega) (by omega), Int.toNat_natCast]
    rfl
theorem markIntsB_ev (l : List Int) (hl : l.length ≤ 1048576) (a : Int) (h0 : 0 ≤ a) (h1 : a ≤ 10000000) : ∃ r, Ev (fun k => laws_markInt64S.f k l a) r ∧ r.1 = a + l.length := markIntsB_l l.length l 0 a hl (by omega) h0 (by omega)
theorem markStrsB_l : ∀ (n : Nat) (l : List ByteArray) (i : Nat) (a : Int), l.length ≤ 1048576 → i + n = l.length → 0 ≤ a → a + n ≤ 100000000 → ∃ r, Ev (fun k => laws_markStringS.l0 k l a (i : Int)) r ∧ r.1 = a + n := by
  intro n
  induction n with
  | zero =>
    intro l i a hl hi h0 h1
    exact ⟨(a, l), evIs1 (fun k => by simp only [laws_markStringS.l0]; rw [if_neg (by omega)]), by simp⟩
  | succ n ih =>
    intro l i a hl hi h0 h1
    obtain ⟨t, ht⟩ := markText_ev a (by omega)
    obtain ⟨r, hr, hr0⟩ := ih (l.set i t) (i + 1) (a + 1) (by rw [List.length_set]; exact hl) (by rw [List.length_set]; omega) (by omega) (by omega)
    refine ⟨r, Ev.step (f := fun k => (laws_markText.f k a).bind fun t => laws_markStringS.l0 k (l.set i t) (a + 1) ((i + 1 : Nat) : Int)) (fun k => ?_) (evThen ht (fun k => rfl) hr), by omega⟩
    simp only [laws_markStringS.l0]
    rw [if_pos (by omega), w64 (n := a + 1) (by omega) (by omega), w64 (n := (i : Int) + 1) (by omega) (by omega)]
    simp only [if_pos (show (0 : Int) ≤ (i : Int) by omega), Int.toNat_natCast]
    rfl
theorem markObjB_ev (o : Int) (l : List Int) (hl : l.length ≤ 1048576) (a : Int) (h0 : 0 ≤ a) (h1 : a ≤ 10000000) : ∃ r, Ev (fun k => laws_markObj.f k o l a) r ∧ r.1 = a + l.length := by
  obtain ⟨r, hr, h⟩ := markIntsB_ev l hl a h0 h1
  exact ⟨(r.1, r.2), evThen hr (fun k => rfl) (evIs fun k => rfl), h⟩
theorem FnExactForwarded (l : List ByteArray) (a : Int) (vs f t : List Int) (hl : l.length ≤ 9223372036854775807) (hx : ∀ s ∈ l, s.size ≤ 9223372036854775807) (ha : -9223372036854775808 ≤ a ∧ a ≤ 9223372036854775807) (hv : vs.length ≤ 9223372036854775807) (hw : ∀ x ∈ vs, (Lit.int .i64 x).wf = true) (hf : f.length ≤ 9223372036854775807) (ht : t.length ≤ 9223372036854775807) : ∃ k, laws_FnExactForwarded.f k l a vs f t = some true := by
  refine Ev.rounds (r := true) ?_
  unfold laws_FnExactForwarded.f
  by_cases c1 : (f.length : Int) > 1048576
  · simp only [if_pos c1]; exact Ev.now _
  by_cases c2 : (t.length : Int) > 1048576
  · simp only [if_neg c1, if_pos c2]; exact Ev.now _
  simp only [if_neg c1, if_neg c2]
  obtain ⟨r, hr, r1, r2, hb⟩ := szStringS_ev l hl hx 1048576 (by omega) (by omega)
  refine evThen hr (fun k => rfl) ?_
  by_cases d : r < 0
  · simp only [if_pos d]; exact Ev.now _
  obtain ⟨hl', hx'⟩ := hb (by omega)
  obtain ⟨q, hq, q1, q2, hb2⟩ := szObj_ev a vs hv r (by omega) (by omega)
  simp only [if_neg d, hq, Option.bind_some]
  by_cases d2 : q < 0
  · simp only [if_pos d2]; exact Ev.now _
  have hv' := hb2 (by omega)
  simp only [if_neg d2]
  refine evThen (g := fun k => laws_FnExactForwarded.good k l a vs f t) (a := ()) ?_ (fun k => rfl) (Ev.now _)
  refine evThen (toStrs_ev l hl') (fun k => rfl) (evThen (toObj_ev a vs hv') (fun k => rfl) (evThen (toInts_ev f (by omega)) (fun k => rfl) (evThen (toInts_ev t (by omega)) (fun k => rfl) (evThen (sFw l a vs f t hl' hx) (fun k => rfl) ?_))))
  refine Ev.congr (fun k => by rw [iFw, Option.bind_some]) ?_
  have hz := fwP_len l a vs f t
  generalize fwP l a vs f t = R at *
  obtain ⟨R1, R2⟩ := R
  simp only at hz
  obtain ⟨m1, hm1, e1⟩ := markStrsB_l l.length l 0 1 hl' (by omega) (by omega) (by omega)
  obtain ⟨m2, hm2, e2⟩ := markObjB_ev a vs hv' m1.1 (by omega) (by omega)
  obtain ⟨m3, hm3, e3⟩ := markIntsB_ev f (by omega) m2.1 (by omega) (by omega)
  obtain ⟨m4, hm4, e4⟩ := markIntsB_ev t (by omega) m3.1 (by omega) (by omega)
  refine evThen (eqObj_refl R1 R2 (by omega)) (fun k => rfl) ?_
  simp only [if_true]
  refine Ev.congr (fun k => by rw [eqStrs_refl, Option.bind_some]) ?_
  refine evThen (eqObj_refl a vs hv) (fun k => rfl) ?_
  simp only [if_true]
  refine evThen (eqInts_refl f hf) (fun k => rfl) ?_
  simp only [if_true]
  refine evThen (eqInts_refl t ht) (fun k => rfl) ?_
  simp only [if_true]
  refine evThen hm1 (fun k => rfl) (evThen hm2 (fun k => rfl) (evThen hm3 (fun k => rfl) (evThen hm4 (fun k => rfl) ?_)))
  simp only [if_neg (show ¬ m4.1 < 0 by omega)]
  refine evThen (markObj_ev R1 R2 (by omega)) (fun k => rfl) (evThen (heldObj_ev R1 R2.length (by omega)) (fun k => rfl) (evIs fun k => ?_))
  simp only [if_neg (show ¬ (1 + (R2.length : Int)) < 0 by omega), if_true]
end Go.Proofs.YtknllhfhcgahiaaDoor.Pure
