/- What this seat's rows ask of the program as a whole: each fact proved by itself, with no condition. -/
import Derived.Test.YtngccjeicolcpaaGreatDoorProg
import Derived.JoinedOf
import Derived.KernelRfl
namespace Go.Proofs.YtngccjeicolcpaaGreatDoor.Facts
open Go.Proofs
theorem no_space : ∀ (w r : List Char), w.all (fun c => c.toNat != 32) = true → wordsSigns (w ++ Char.ofNat 32 :: r) = w :: wordsSigns r
  | [], r, _ => rfl
  | c :: w, r, h => by
    have hc : (c.toNat != 32) = true := by simp only [List.all_cons, Bool.and_eq_true] at h; exact h.1
    have hw : w.all (fun c => c.toNat != 32) = true := by simp only [List.all_cons, Bool.and_eq_true] at h; exact h.2
    have ih := no_space w r hw
    have hn : c ≠ Char.ofNat 32 := fun e => by rw [e] at hc; simp at hc
    show wordsSigns (c :: (w ++ Char.ofNat 32 :: r)) = _
    rw [wordsSigns, ih]
    exact fun e => hn e
def w0 : List Char := [104, 97, 114, 110, 101, 115, 115].map Char.ofNat
def w1 : List Char := [56, 55, 101, 102, 49, 97, 100, 97, 98, 101, 99, 57, 53, 98, 99, 99, 53, 48, 48, 99, 50, 57, 51, 48, 56, 49, 102, 98, 100, 51, 57, 50, 50, 51, 57, 54, 54, 51, 48, 99, 56, 48, 49, 55, 56, 102, 48, 53, 57, 98, 50, 50, 56, 100, 50, 100, 54, 99, 57, 52, 98, 51, 53, 56].map Char.ofNat
def w2 : List Char := [99, 117, 116].map Char.ofNat
def rest : List Char := [97, 116, 32, 108, 111, 111, 112, 46, 101, 120, 97, 109, 112, 108, 101, 47, 103, 48, 48, 54, 52, 56, 47, 108, 97, 119, 115, 46, 70, 110, 69, 120, 97, 99, 116, 69, 110, 100, 101, 100, 32, 108, 111, 111, 112, 46, 101, 120, 97, 109, 112, 108, 101, 47, 103, 48, 48, 54, 52, 56, 47, 108, 97, 119, 115, 46, 70, 110, 69, 120, 97, 99, 116, 78, 111, 116, 101, 100, 32, 108, 111, 111, 112, 46, 101, 120, 97, 109, 112, 108, 101, 47, 103, 48, 48, 54, 52, 56, 47, 108, 97, 119, 115, 46, 70, 110, 69, 120, 97, 99, 116, 76, 111, 103, 103, 101, 100, 32, 108, 111, 111, 112, 46, 101, 120, 97, 109, 112, 108, 101, 47, 103, 48, 48, 54, 52, 56, 47, 108, 97, 119, 115, 46, 70, 110, 69, 120, 97, 99, 116, 76, 111, 103, 79, 102, 32, 108, 111, 111, 112, 46, 101, 120, 97, 109, 112, 108, 101, 47, 103, 48, 48, 54, 52, 56, 47, 108, 97, 119, 115, 46, 70, 110, 76, 111, 103, 70, 117, 108, 108].map Char.ofNat
theorem order : Tryz.prog.initOrder = String.ofList (w0 ++ Char.ofNat 32 :: (w1 ++ Char.ofNat 32 :: (w2 ++ Char.ofNat 32 :: (rest)))) := by kernel_rfl
theorem signs : Tryz.prog.initOrder.toList = w0 ++ Char.ofNat 32 :: (w1 ++ Char.ofNat 32 :: (w2 ++ Char.ofNat 32 :: (rest))) := by rw [order, String.toList_ofList]
theorem words : wordsSigns Tryz.prog.initOrder.toList = w0 :: w1 :: w2 :: wordsSigns rest := by
  rw [signs, no_space _ _ ?_, no_space _ _ ?_, no_space _ _ ?_]
  all_goals kernel_rfl
theorem behind : behindMainWord (wordsSigns Tryz.prog.initOrder.toList) = w2 :: wordsSigns rest := by
  rw [words]
  have h : ((w0 == "harness".toList || w0 == "ownmain".toList) && isSumSigns w1) = true := by kernel_rfl
  show (if ((w0 == "harness".toList || w0 == "ownmain".toList) && isSumSigns w1) = true then (w2 :: wordsSigns rest) else (w0 :: w1 :: w2 :: wordsSigns rest)) = _
  rw [if_pos h]
theorem strip (ws : List (List Char)) : stripLifts liftWords (w2 :: ws) = ([], w2 :: ws) := by kernel_rfl
theorem keysAt : (true == Tryz.prog.plainKeys) = true := by kernel_rfl
theorem laid : laidOutB Tryz.prog = true := by kernel_rfl
theorem maps : mapsRowed Tryz.prog = true := by kernel_rfl
theorem stops : (Tryz.prog.stops == []) = true := by kernel_rfl
theorem stopKnobs : (Tryz.prog.stopKnobs == []) = true := by kernel_rfl
theorem heard : Tryz.prog.stopsHeard = true := by kernel_rfl
theorem lays : Tryz.prog.laysLater = false := by kernel_rfl
theorem reflects : Tryz.prog.bearsReflect = false := by kernel_rfl
theorem fits : Tryz.prog.doorFits [] = true := by kernel_rfl
theorem headLifts_of {P : Program} {r : List (List Char)} (hb : behindMainWord (wordsSigns P.initOrder.toList) = w2 :: r) (hs : stripLifts liftWords (w2 :: r) = ([], w2 :: r)) : P.headLifts = [] := by
  unfold Program.headLifts
  rw [hb]
  simp only [hs]
  rw [if_pos (by kernel_rfl)]
theorem enter_of {P : Program} {r : List (List Char)} (hb : behindMainWord (wordsSigns P.initOrder.toList) = w2 :: r) (hs : stripLifts liftWords (w2 :: r) = ([], w2 :: r))
    (hl : P.laysLater = false) (hr : P.bearsReflect = false) (hf : P.doorFits [] = true) : P.mayEnter = true := by
  unfold Program.mayEnter
  rw [hb]
  simp only [hs, hl, hr, hf]
  have hc : ((w2 :: r).head? == some "cut".toList) = true := by kernel_rfl
  rw [hc]
  simp
theorem lifts_of {P : Program} {r : List (List Char)} (hb : behindMainWord (wordsSigns P.initOrder.toList) = w2 :: r) (hh : P.headLifts = []) : P.liftsFinal = false := by
  unfold Program.liftsFinal
  rw [hb, hh]
  kernel_rfl
theorem make_of {P : Program} {r : List (List Char)} (hb : behindMainWord (wordsSigns P.initOrder.toList) = w2 :: r) (hh : P.headLifts = []) : P.make = some .cut := by
  unfold Program.make
  rw [hb, hh]
  kernel_rfl
theorem headLifts : Tryz.prog.headLifts = [] := headLifts_of behind (strip _)
theorem enter : Tryz.prog.mayEnter = true := enter_of behind (strip _) lays reflects fits
theorem lifts : Tryz.prog.liftsFinal = false := lifts_of behind headLifts
theorem make : Tryz.prog.make = some .cut := make_of behind headLifts
theorem joined_of {P : Program} {f : FuncId} {fn : Func} {s : ChangeSpec} {c : OpenClaim} (a1 : c.wf (OpenSpec.ofChange s) = true) (a2 : laidOutB P = true) (a3 : mapsRowed P = true)
    (a4 : fn.params.all (P.readableRec ·) = true) (a5 : namedTie P c.named s.vars = true) (a6 : (c.stops == []) = true) (a7 : (P.stops == []) = true) (a8 : (c.knobs == []) = true) (a9 : (P.stopKnobs == []) = true)
    (b1 : (c.inPlace == P.inPlace f) = true) (b2 : (c.unfollowed == P.unfollowed f) = true) (b3 : (c.recurses == P.recurses f) = true) (b4 : (c.named == P.varsNamed f) = true)
    (d1 : (c.maps == (fn.params.toList ++ s.plain.varTypes P).any (P.mapsRec ·)) = true) (d2 : (c.ifaces == (fn.params.toList ++ s.plain.varTypes P).any (P.ifacesRec ·)) = true) (d3 : (c.mapsOut == P.mapsAmong fn.resultTypes.toList) = true)
    (d4 : (c.loops == (fn.params.toList ++ s.plain.varTypes P).any (P.loopsFrom ·)) = true) (d5 : (c.wideKeys == (fn.params.toList ++ s.plain.varTypes P ++ fn.resultTypes.toList).any (P.wideKeysFrom ·)) = true)
    (d6 : s.vars.all (P.varReadable ·) = true) (d7 : fn.resultTypes.all (fun t => P.readableRec t && decide (t < P.types.size)) = true) (d8 : (c.ifacesOut == fn.resultTypes.toList.any (P.ifacesRec ·)) = true)
    (d9 : (c.loopsOut == fn.resultTypes.toList.any (P.loopsFrom ·)) = true) (e1 : (c.plainKeys == P.plainKeys) = true) (e2 : c.shortTexts.isNone = true) (e3 : P.stopsHeard = true) (e4 : P.mayEnter = true)
    (e5 : (c.lifted == P.liftsFinal) = true) (e6 : (P.make == some c.make) = true)
    (e7 : (c.kinds == (if c.domain.isEmpty then [] else fn.params.toList.map fun t => match P.underlying t with | some (.int k) => some k | _ => none)) = true) (e8 : (c.pinned == c.pinnedBy) = true)
    (g1 : (c.veiled == (fn.params.toList ++ s.plain.varTypes P ++ fn.resultTypes.toList).any (P.veiledRec ·)) = true)
    (g2 : c.veiledFits P fn.params.toList (fn.params.toList ++ s.plain.varTypes P ++ fn.resultTypes.toList) = true) : joinedFacts P f fn s c = true := by
  unfold joinedFacts
  simp only [Bool.and_eq_true]
  exact ⟨⟨⟨⟨⟨⟨⟨⟨⟨⟨⟨⟨⟨⟨⟨⟨⟨⟨⟨⟨⟨⟨⟨⟨⟨⟨⟨⟨⟨⟨⟨a1, a2⟩, a3⟩, a4⟩, a5⟩, a6⟩, a7⟩, a8⟩, a9⟩, b1⟩, b2⟩, b3⟩, b4⟩, d1⟩, d2⟩, d3⟩, d4⟩, d5⟩, d6⟩, d7⟩, d8⟩, d9⟩, e1⟩, e2⟩, e3⟩, e4⟩, e5⟩, e6⟩, e7⟩, e8⟩, g1⟩, g2⟩
end Go.Proofs.YtngccjeicolcpaaGreatDoor.Facts
