-- by a patched copy of the print (wip/tools/patch_print.py)
import Derived.Test.YtbbbajnnoficbaaPFnStoredx0
import Derived.Test.YtbbbajnnoficbaaPFnStoredx2
import Derived.Test.YtbbbajnnoficbaaPFnStoredx5
namespace Go.Proofs.Ytbbbajnnoficbaa.PFnStored
open Go.RowKit Go.Proofs.YtbbbajnnoficbaaW.PrintWords Go.Proofs.YtbbbajnnoficbaaW.PrintLast Go.Proofs.YtbbbajnnoficbaaW.PrintMore
attribute [local go_sem] max2_int min2_int max_two min_two max_three min_three max_four min_four
open Go.Proofs.YtbbbajnnoficbaaW.PrintWords renaming blk_drewN → bN, blk_drew → bD, blk_alloc → bA, pw_below_drewN → lN, below_drew1 → lD, below_set → lS, below_step → lT, blk_below → bB, blk_cell → bC, blk_frozen → bF
open Go.Proofs.YtbbbajnnoficbaaW.PrintWords.Aside0 renaming mk → mK
open Go.Proofs.YtbbbajnnoficbaaW.PrintWords.Kd renaming R_drew → rD, R_below → rB, R_reads' → rR, C_below → cB
set_option linter.unusedVariables false
set_option maxHeartbeats 8000000
set_option maxRecDepth 1000000
set_option linter.unusedSimpArgs false
theorem slices_Insert.copy {P : Program} (w : World) (dT sT ty elem : TypeId) (g o dLen dCap : Nat) (a : Addr) (sLen sCap : Nat) (cur : Array Value) (t : TypeId) (cs : List Value)
    (hu : P.underlying dT = some (.slice elem)) (hs : (P.info? elem).map (·.size) = some 3)
    (hg : w.heap[g]? = some (.cells cur t (0, 0))) (hn : cs.length = Nat.min sLen dLen * 3)
    (hsrc : ∀ j v, cs[j]? = some v → w.cell? (a.add j) = some v) (hfit : o + cs.length ≤ cur.size) (h1 : ∀ v ∈ cs, v.oneCell' = true) :
    (Builtin.copy_ #[dT, sT] ty #[.slice (some ⟨g, o, none⟩) dLen dCap, .slice (some a) sLen sCap]).run P w =
      .ok (goInt (Nat.min sLen dLen)) (w.setRow g (cur.toList.take o ++ cs ++ cur.toList.drop (o + cs.length)).toArray) := by
  have hl := run_loadCells_list (P := P) w a cs hsrc
  have hst := run_storeCells_at P g o t cs 0 cur w hg (by simpa using hfit) h1
  cases hq : P.info? elem with
  | none => simp [hq] at hs
  | some i =>
    have hi : i.size = 3 := by simpa [hq] using hs
    simp [Builtin.copy_, run_underlying hu, Builtin.lenOf, Builtin.firstCells, sizeOf, typeInfo, hq, hi, ← hn, hl, hst]
def slices_Insert.cs (x : S67) : List Value := [.int .i64 x.f0, .string x.f1, .string x.f2]
theorem slices_Insert.cslen : ∀ l : List S67, (l.flatMap slices_Insert.cs).length = l.length * 3
  | [] => rfl
  | x :: l => by rw [List.flatMap_cons, List.length_append, slices_Insert.cslen l]; simp [slices_Insert.cs]; omega
theorem slices_Insert.one : ∀ (l : List S67) (v : Value), v ∈ l.flatMap slices_Insert.cs → v.oneCell' = true := by
  intro l v hv
  obtain ⟨x, _, hx⟩ := List.mem_flatMap.1 hv
  simp [slices_Insert.cs] at hx
  rcases hx with rfl | rfl | rfl <;> rfl
theorem slices_Insert.seg : ∀ (l : List S67) (i : Nat) (h : i < l.length), ((l.flatMap slices_Insert.cs).drop (i * 3)).take 3 = slices_Insert.cs l[i]
  | [], i, h => absurd h (Nat.not_lt_zero i)
  | x :: l, 0, h => by simp [slices_Insert.cs]
  | x :: l, i + 1, h => by
    rw [List.flatMap_cons, List.drop_append]
    simp only [List.length_cons] at h
    have e : (slices_Insert.cs x).length = 3 := rfl
    rw [List.drop_of_length_le (by rw [e]; omega), e, show (i + 1) * 3 - 3 = i * 3 by omega, List.nil_append, slices_Insert.seg l i (by omega)]
    rfl
theorem slices_Insert.cells {base g cap n : Nat} {ok : Nat → Prop} {xs : List S67} {W : World} (h : Kd.R k67 67 W base ok (.slice (some ⟨g, 0, none⟩) n cap) xs) :
    ∃ cur, W.heap[g]? = some (.cells cur 67 (0, 0)) ∧ base ≤ g ∧ ok g ∧ n = xs.length ∧ xs.length ≤ cap ∧ cap ≤ maxLen ∧ cur.size = cap * 3 ∧ cur.toList.take (xs.length * 3) = xs.flatMap slices_Insert.cs := by
  obtain ⟨hn, hnc, _⟩ := rR h
  have hE := fun (i : Nat) (hi : i < xs.length) => Kd.R_elem h z67 (i : Int) (by omega) (by omega)
  obtain ⟨hok, inner, ho, hr⟩ := h
  rcases ho.2 with ⟨hv, _⟩ | ⟨g', cap', cur, hv, hb, hh, hnc', hcm, hcs, ht⟩
  · cases hv
  injection hv with ha _ hc
  injection ha with ha
  injection ha with hg
  subst hg; subst hc
  refine ⟨cur, hh, hb, hok g (by simp [Value.ownBlock]), hn, by omega, hcm, hcs, ?_⟩
  apply List.ext_getElem?
  intro j
  by_cases hj : j < xs.length * 3
  · have hi : j / 3 < xs.length := by omega
    obtain ⟨c, hcl, hM, hcc, _⟩ := hE (j / 3) hi
    obtain rfl := k67_openM hM
    have e : xs.getD (((j / 3 : Nat) : Int)).toNat z67 = xs[j / 3] := by rw [Int.toNat_natCast, List.getD_eq_getElem?_getD, List.getElem?_eq_getElem hi]; rfl
    rw [e] at hcc
    have hs := slices_Insert.seg xs (j / 3) hi
    have hu : (xs.flatMap slices_Insert.cs)[j]? = (slices_Insert.cs xs[j / 3])[j % 3]? := by
      rw [← hs, List.getElem?_take, if_pos (by omega), List.getElem?_drop]
      congr 1; omega
    have h3 : j % 3 < (slices_Insert.cs xs[j / 3]).length := by show j % 3 < 3; omega
    have := hcc (j % 3) _ (List.getElem?_eq_getElem h3)
    rw [hu, List.getElem?_eq_getElem h3, List.getElem?_take, if_pos hj, ← this]
    rw [bC hh]
    rw [show (((j / 3 : Nat) : Int)).toNat * k67.sz + j % 3 = j from by
      rw [Int.toNat_natCast]; show j / 3 * 3 + j % 3 = j; omega]
    simp
  · rw [List.getElem?_take, if_neg hj, List.getElem?_eq_none (by rw [slices_Insert.cslen]; omega)]
theorem slices_Insert.row {base g cap : Nat} {ok : Nat → Prop} {xs : List S67} {W : World} {cur : Array Value} (hh : W.heap[g]? = some (.cells cur 67 (0, 0))) (hb : base ≤ g) (hok : ok g) (hn : xs.length ≤ cap) (hc : cap ≤ maxLen) (hs : cur.size = cap * 3) (ht : cur.toList.take (xs.length * 3) = xs.flatMap slices_Insert.cs) :
    Kd.R k67 67 W base ok (.slice (some ⟨g, 0, none⟩) xs.length cap) xs := by
  refine ⟨fun k hk => ?_, xs.flatMap slices_Insert.cs, ⟨slices_Insert.cslen xs, .inr ⟨g, cap, cur, rfl, hb, hh, hn, hc, hs, ht⟩⟩, slices_Insert.cslen xs, fun i p hp => ?_⟩
  · have : g = k := by simpa [Value.ownBlock] using hk
    exact this ▸ hok
  · obtain ⟨hi, rfl⟩ := List.getElem?_eq_some_iff.1 hp
    rw [show k67.sz = 3 from rfl, slices_Insert.seg xs i hi]
    exact k67_mkM _ _ _ xs[i]
theorem slices_Insert.atEnd (base : Nat) (ok : Nat → Prop) (A : Option Addr) (cap : Nat) (l : List S67) (x : S67) (w0 W : World) (hR : Kd.R k67 67 W base ok (.slice A l.length cap) l) (hok : ∀ k, W.heap.size ≤ k → ok k) (hB : Below base w0 W) (hbase : base ≤ W.heap.size) (hl : (l.length + 1) * 40 ≤ 140737488355328) :
    Calls Try.prog 104 #[.slice A l.length cap, .int .i64 (l.length : Int), .slice (some ⟨W.heap.size, 0, none⟩) 1 1] (W.alloc (.cells (slices_Insert.cs x).toArray 67)) fun e w' => ∃ v', e = .returned v' ∧ Kd.R k67 67 w' base ok v' (l ++ [x]) ∧ W.grownBy w' (Value.slice A l.length cap).ownBlock ∧ (v'.ownBlock = (Value.slice A l.length cap).ownBlock ∨ ∃ b, v'.ownBlock = some b ∧ W.heap.size ≤ b) := by
  have hu28 := Try.underlying28
  obtain ⟨hn, hnc, _⟩ := rR hR
  rcases Nat.eq_or_lt_of_le hnc with hcc | hcc
  · subst hcc
    have HR := mK hR
    have HB := mK hB
    have HO := mK hok
    clear hR hB hok hn
    have q1 : (0 : Int) ≤ (l.length : Int) := by omega
    go_enter Try.func104, Try.ntmps104
    go_wp2_with (first | ((with_reducible refine gate_builtin (b := .append) (xs := #[.tmp 23, .tmp 24]) rfl ?_); at_builtin; refine Kd.R_append k67 (w0 := w0) base rfl (.tmp 23) (.tmp 24) 28 67 (.agg #[(.int .i64 0), (.string ⟨#[]⟩), (.string ⟨#[]⟩)]) 40 rfl Try.underlying28 info67 rfl (by decide) (by omega) (.slice A l.length l.length) l x (slices_Insert.cs x) ok (fun _ => False) rfl rfl ?aP (fun _ hk => hk.elim) HO.out HR.out HB.out hbase hl ?_; (case aP => exact k67_mkM _ _ _ x); intro v1 w1 ho hb hg hat; have n0_ := mK ho; have n1_ := mK hg; have n2_ := mK hat; clear ho hb hg hat))
    go_ret
    exact ⟨_, rfl, n0_.out, n1_.out, n2_.out⟩
  · have hne : ¬ cap = l.length := by omega
    clear hcc
    have HR := mK hR
    have HB := mK hB
    have HO := mK hok
    clear hR hB hok hn
    have q1 : (0 : Int) ≤ (l.length : Int) := by omega
    have q2 : (l.length : Int) ≤ (cap : Int) := by omega
    go_enter Try.func104, Try.ntmps104
    go_wp2_with (first | ((with_reducible refine gate_builtin (b := .append) (xs := #[.tmp 23, .tmp 24]) rfl ?_); at_builtin; refine Kd.R_append k67 (w0 := w0) base rfl (.tmp 23) (.tmp 24) 28 67 (.agg #[(.int .i64 0), (.string ⟨#[]⟩), (.string ⟨#[]⟩)]) 40 rfl Try.underlying28 info67 rfl (by decide) (by omega) (.slice A l.length cap) l x (slices_Insert.cs x) ok (fun _ => False) rfl rfl ?aP (fun _ hk => hk.elim) HO.out HR.out HB.out hbase hl ?_; (case aP => exact k67_mkM _ _ _ x); intro v1 w1 ho hb hg hat; have n0_ := mK ho; have n1_ := mK hg; have n2_ := mK hat; clear ho hb hg hat))
    go_ret
    exact ⟨_, rfl, n0_.out, n1_.out, n2_.out⟩
theorem slices_Insert.stepC {P : Program} {ops : Array Oper} {o : Oper} {a : Act} {w : World} {K : Act → World → Prop} {Q : Exit → Act → World → Prop} {E : Prop}
    (hg : o.guard = none) (d x : Operand) (dT sT : TypeId) (hop : o.op = Op.call { callee := Callee.builtin Builtin.copy, args := #[d, x], argTypes := #[dT, sT] })
    (v u : Value) (hd : a.eval d = v) (hx : a.eval x = u) {v' : Value} {w' : World} (hrun : (Builtin.copy_ #[dT, sT] o.type #[v, u]).run P w = .ok v' w') (hK : K (a.put o.dst v') w') :
    if Region.wanted o (yielded ops a.tmps) = true then Oper.wp P o a w K Q else E := by
  have hw : Region.wanted o (yielded ops a.tmps) = true := by simp [Region.wanted, hg]
  rw [if_pos hw]
  unfold Oper.wp
  simp [execOp, hop, resolve, invoke, builtin, hd, hx, hrun, Result.andThen]
  exact hK
theorem slices_Insert.cellX {cs : List Value} (W : World) (j : Nat) (v : Value) (h : cs[j]? = some v) : (W.alloc (.cells cs.toArray 67)).cell? ⟨W.heap.size, j, none⟩ = some v := by
  rw [World.cell?_alloc_at (w := W) cs.toArray _ W.heap.size j rfl]
  simpa using h
theorem slices_Insert.lay (a b c : List Value) (h : List Value) (o : Nat) (ha : a.length = o) : (a ++ b ++ h).take o ++ c ++ (a ++ b ++ h).drop (o + c.length) = a ++ c ++ (b ++ h).drop c.length := by
  subst ha
  rw [List.append_assoc a b h, List.take_left, List.drop_append, List.drop_of_length_le (by omega), List.nil_append, show a.length + c.length - a.length = c.length by omega]
theorem slices_Insert.grows (base g : Nat) (ok : Nat → Prop) (i : Nat) (l : List S67) (x : S67) (W : World) (hR : Kd.R k67 67 W base ok (.slice (some ⟨g, 0, none⟩) l.length l.length) l) (hi : i < l.length) (hok : ∀ k, W.heap.size ≤ k → ok k) (hbase : base ≤ W.heap.size) (hl : (l.length + 1) * 40 ≤ 140737488355328) :
    Calls Try.prog 104 #[.slice (some ⟨g, 0, none⟩) l.length l.length, .int .i64 (i : Int), .slice (some ⟨W.heap.size, 0, none⟩) 1 1] (W.alloc (.cells (slices_Insert.cs x).toArray 67)) fun e w' => ∃ v', e = .returned v' ∧ Kd.R k67 67 w' base ok v' (l.take i ++ x :: l.drop i) ∧ W.grownBy w' (Value.slice (some ⟨g, 0, none⟩) l.length l.length).ownBlock ∧ (v'.ownBlock = (Value.slice (some ⟨g, 0, none⟩) l.length l.length).ownBlock ∨ ∃ b, v'.ownBlock = some b ∧ W.heap.size ≤ b) := by
  have hu28 := Try.underlying28
  have hu2 := Try.underlying3
  obtain ⟨cur, hh, hb, hokg, -, -, hcm, hcs, ht⟩ := slices_Insert.cells hR
  have hgW : g < W.heap.size := (Array.getElem?_eq_some_iff.1 hh).1
  obtain ⟨i0, hi0, hz0, hzs, hzb⟩ := info_parts info67
  obtain ⟨W0, hW0⟩ : ∃ W0, W0 = W.alloc (.cells (slices_Insert.cs x).toArray 67) := ⟨_, rfl⟩
  have hs0 : W0.heap.size = W.heap.size + 1 := by rw [hW0]; unfold World.alloc; exact Array.size_push _
  have hh0 : W0.heap[g]? = some (.cells cur 67 (0, 0)) := by rw [hW0]; exact (Below.heap_alloc W _ g hgW).trans hh
  have hx0 : ∀ j v, (slices_Insert.cs x)[j]? = some v → W0.cell? ⟨W.heap.size, j, none⟩ = some v := fun j v h => by rw [hW0]; exact slices_Insert.cellX W j v h
  obtain ⟨n, hn⟩ : ∃ n, n = l.length := ⟨_, rfl⟩
  have ht' : cur.toList.take (i * 3) = (l.take i).flatMap slices_Insert.cs := by
    have e : cur.toList.take (i * 3) = (cur.toList.take (l.length * 3)).take (i * 3) := by rw [List.take_take, Nat.min_eq_left (by omega)]
    have e2 : l.flatMap slices_Insert.cs = (l.take i).flatMap slices_Insert.cs ++ (l.drop i).flatMap slices_Insert.cs := by rw [← List.flatMap_append, List.take_append_drop]
    rw [e, ht, e2, List.take_left' (by rw [slices_Insert.cslen, List.length_take]; omega)]
  have hd' : ∀ j v, ((l.drop i).flatMap slices_Insert.cs)[j]? = some v → W0.cell? ⟨g, i * 3 + j, none⟩ = some v := fun j v hj => by
    have e2 : l.flatMap slices_Insert.cs = (l.take i).flatMap slices_Insert.cs ++ (l.drop i).flatMap slices_Insert.cs := by rw [← List.flatMap_append, List.take_append_drop]
    have hj2 : (l.flatMap slices_Insert.cs)[i * 3 + j]? = some v := by
      rw [e2, List.getElem?_append_right (by rw [slices_Insert.cslen, List.length_take]; omega), slices_Insert.cslen, List.length_take, Nat.min_eq_left (by omega), show i * 3 + j - i * 3 = j by omega]; exact hj
    rw [← ht, List.getElem?_take] at hj2
    split at hj2
    · rw [bC hh0]; simpa using hj2
    · cases hj2
  rw [← hW0]
  have hold : (Builtin.firstCells i0.size i (.slice (some ⟨g, 0, none⟩) i n)).run Try.prog W0.drew = .ok ((l.take i).flatMap slices_Insert.cs).toArray W0.drew := by
    rw [hzs]
    exact run_firstCells_some W0.drew 3 i ⟨g, 0, none⟩ i n ((l.take i).flatMap slices_Insert.cs) (by rw [slices_Insert.cslen, List.length_take]; omega) (fun j v hj => by
      rw [← ht', List.getElem?_take] at hj
      split at hj
      · rw [Addr.add_lit, Nat.zero_add]
        show W0.cell? _ = _
        rw [bC hh0]; simpa using hj
      · cases hj)
  have hgr := Lib.run_append_grow_zeros (P := Try.prog) W0 28 3 28 67 i0 _ .i64 .i64 hu28 hu2 hi0 hz0 (some ⟨g, 0, none⟩) i n _ hold (n + 1 - i) (by omega) (by omega) (by omega) (by omega) (by rw [hzb]; omega) (by rw [hzb, show i + (n + 1 - i) = n + 1 by omega]; exact growslice_fits (by omega) (by omega))
  rw [show i + (n + 1 - i) = n + 1 by omega] at hgr
  obtain ⟨G, hG⟩ : ∃ G, G = grownCap W0 (n + 1) n 67 := ⟨_, rfl⟩
  have hGn : n + 1 ≤ G := by rw [hG]; exact grownCap_ge W0 _ _ _
  have hGm : G ≤ maxLen := by rw [hG]; exact grownCap_le_maxLen W0 (n + 1) n 67 (by unfold maxLen; omega)
  rw [← hG] at hgr
  obtain ⟨ROW, hROW⟩ : ∃ ROW : Array Value, ROW = ((l.take i).flatMap slices_Insert.cs).toArray ++ Builtin.zeroCells (Value.agg #[Value.int IntKind.i64 0, Value.string { data := #[] }, Value.string { data := #[] }]).cells (n + 1 - i) ++ Builtin.zeroCells (Value.agg #[Value.int IntKind.i64 0, Value.string { data := #[] }, Value.string { data := #[] }]).cells (G - (n + 1)) := ⟨_, rfl⟩
  rw [← hROW] at hgr
  have hXl : ((l.take i).flatMap slices_Insert.cs).length = i * 3 := by rw [slices_Insert.cslen, List.length_take]; omega
  have hRs : ROW.size = G * 3 := by
    rw [hROW, Array.size_append, Array.size_append, size_zeroCells, size_zeroCells, List.size_toArray, hXl]
    show i * 3 + (n + 1 - i) * 3 + (G - (n + 1)) * 3 = G * 3
    omega
  have hRt : ROW.toList.take (i * 3) = (l.take i).flatMap slices_Insert.cs := by
    rw [hROW, Array.toList_append, Array.toList_append, List.append_assoc, List.toList_toArray, List.take_left' hXl]
  clear hROW hold
  obtain ⟨W1, hW1⟩ : ∃ W1, W1 = W0.drew.alloc (.cells ROW 67) := ⟨_, rfl⟩
  have hW1h : W1.heap[W0.heap.size]? = some (.cells ROW 67 (0, 0)) := by rw [hW1]; exact heap_alloc_new W0.drew _
  rw [← hW1] at hgr
  rw [hs0] at hgr hW1h
  have K1 : ∀ k, k < W.heap.size + 1 → W1.heap[k]? = W0.heap[k]? := fun k hk => by rw [hW1]; exact heap_alloc_old W0.drew _ (by show k < W0.heap.size; omega)
  have K0 : ∀ k, k < W.heap.size → W1.heap[k]? = W.heap[k]? := fun k hk => by rw [K1 k (by omega), hW0]; exact Below.heap_alloc W _ k hk
  have z1 : W1.heap.size = W.heap.size + 2 := by rw [hW1]; show (W0.heap.push _).size = _; rw [Array.size_push, hs0]
  have o1 : W1.os = W.os ∧ W1.tape = W.tape ∧ W1.output = W.output := by rw [hW1, hW0]; exact ⟨rfl, rfl, rfl⟩
  have hx1 : ∀ j v, (slices_Insert.cs x)[j]? = some v → W1.cell? ((⟨W.heap.size, 0, none⟩ : Addr).add j) = some v := fun j v hj => by
    rw [Addr.add_lit, Nat.zero_add, ← hx0 j v hj]
    exact World.cell?_of_block (K1 W.heap.size (by omega))
  have hcs3 : (slices_Insert.cs x).length = 3 := rfl
  have hsz : (Try.prog.info? 67).map (·.size) = some 3 := by rw [hi0]; simp [hzs]
  have m1 : Nat.min 1 (n + 1 - i) = 1 := by simp only [Nat.min_def]; rw [if_pos (by omega)]
  have m2 : Nat.min (n - i) (n + 1 - (i + 1)) = n - i := by simp only [Nat.min_def]; rw [if_pos (by omega)]
  have one1 : ∀ v ∈ slices_Insert.cs x, v.oneCell' = true := fun v hv => slices_Insert.one [x] v (by simpa using hv)
  have hcA : ∀ ty dc, (Builtin.copy_ #[28, 28] ty #[.slice (some ⟨W.heap.size + 1, i * 3, none⟩) (n + 1 - i) dc, .slice (some ⟨W.heap.size, 0, none⟩) 1 1]).run Try.prog W1 = .ok (goInt 1) (W1.setRow (W.heap.size + 1) (ROW.toList.take (i * 3) ++ slices_Insert.cs x ++ ROW.toList.drop (i * 3 + 3)).toArray) := fun ty dc => by
    have := slices_Insert.copy (P := Try.prog) W1 28 28 ty 67 (W.heap.size + 1) (i * 3) (n + 1 - i) dc ⟨W.heap.size, 0, none⟩ 1 1 ROW 67 (slices_Insert.cs x) hu28 hsz hW1h (by rw [m1, hcs3]) hx1 (by rw [hcs3, hRs]; omega) one1
    rw [m1, hcs3] at this
    exact this
  obtain ⟨ROW2, hROW2⟩ : ∃ r, r = (ROW.toList.take (i * 3) ++ slices_Insert.cs x ++ ROW.toList.drop (i * 3 + 3)).toArray := ⟨_, rfl⟩
  rw [← hROW2] at hcA
  have hR2s : ROW2.size = G * 3 := by
    rw [hROW2, List.size_toArray, List.length_append, List.length_append, hcs3, List.length_take, List.length_drop, Array.length_toList, hRs]
    omega
  have hR2t : ROW2.toList.take (i * 3 + 3) = (l.take i).flatMap slices_Insert.cs ++ slices_Insert.cs x := by
    rw [hROW2, List.toList_toArray, hRt, List.take_left' (by rw [List.length_append, hXl, hcs3])]
  obtain ⟨W2, hW2⟩ : ∃ W2, W2 = W1.setRow (W.heap.size + 1) ROW2 := ⟨_, rfl⟩
  rw [← hW2] at hcA
  have hW2h : W2.heap[W.heap.size + 1]? = some (.cells ROW2 67 (0, 0)) := by rw [hW2]; exact setRow_heap W1 _ ROW ROW2 _ _ hW1h
  have K2 : ∀ k, k ≠ W.heap.size + 1 → W2.heap[k]? = W1.heap[k]? := fun k hk => by
    rw [hW2]; simp [World.setRow, Array.getElem?_modify, Ne.symm hk]
  have z2 : W2.heap.size = W.heap.size + 2 := by rw [hW2]; simp [World.setRow, z1]
  have o2 : W2.os = W.os ∧ W2.tape = W.tape ∧ W2.output = W.output := by rw [hW2]; exact o1
  have hd2 : ∀ j v, ((l.drop i).flatMap slices_Insert.cs)[j]? = some v → W2.drew.cell? ((⟨g, i * 3, none⟩ : Addr).add j) = some v := fun j v hj => by
    rw [Addr.add_lit, ← hd' j v hj]
    refine World.cell?_of_block ?_
    exact (K2 g (by omega)).trans (K1 g (by omega))
  have hdl : ((l.drop i).flatMap slices_Insert.cs).length = (n - i) * 3 := by rw [slices_Insert.cslen, List.length_drop, hn]
  have hcB : ∀ ty dc sc, (Builtin.copy_ #[28, 28] ty #[.slice (some ⟨W.heap.size + 1, (i + 1) * 3, none⟩) (n + 1 - (i + 1)) dc, .slice (some ⟨g, i * 3, none⟩) (n - i) sc]).run Try.prog W2.drew = .ok (goInt ((n - i : Nat) : Int)) (W2.drew.setRow (W.heap.size + 1) (ROW2.toList.take ((i + 1) * 3) ++ (l.drop i).flatMap slices_Insert.cs ++ ROW2.toList.drop ((i + 1) * 3 + (n - i) * 3)).toArray) := fun ty dc sc => by
    have := slices_Insert.copy (P := Try.prog) W2.drew 28 28 ty 67 (W.heap.size + 1) ((i + 1) * 3) (n + 1 - (i + 1)) dc ⟨g, i * 3, none⟩ (n - i) sc ROW2 67 ((l.drop i).flatMap slices_Insert.cs) hu28 hsz hW2h (by rw [m2, hdl]) hd2 (by rw [hdl, hR2s]; omega) (slices_Insert.one _)
    rw [m2, hdl] at this
    exact this
  obtain ⟨ROW3, hROW3⟩ : ∃ r, r = (ROW2.toList.take ((i + 1) * 3) ++ (l.drop i).flatMap slices_Insert.cs ++ ROW2.toList.drop ((i + 1) * 3 + (n - i) * 3)).toArray := ⟨_, rfl⟩
  rw [← hROW3] at hcB
  have hlen : (l.take i ++ x :: l.drop i).length = n + 1 := by rw [List.length_append, List.length_cons, List.length_take, List.length_drop]; omega
  have hR3s : ROW3.size = G * 3 := by
    rw [hROW3, List.size_toArray, List.length_append, List.length_append, hdl, List.length_take, List.length_drop, Array.length_toList, hR2s]
    omega
  have hR3t : ROW3.toList.take ((l.take i ++ x :: l.drop i).length * 3) = (l.take i ++ x :: l.drop i).flatMap slices_Insert.cs := by
    rw [hROW3, List.toList_toArray, hlen, show (i + 1) * 3 = i * 3 + 3 by omega, hR2t, List.take_left' (by rw [List.length_append, List.length_append, hXl, hcs3, hdl]; omega)]
    simp
  have EN : ∀ W3 : World, W3.heap = (W2.setRow (W.heap.size + 1) ROW3).heap → W3.os = W2.os ∧ W3.tape = W2.tape ∧ W3.output = W2.output → Kd.R k67 67 W3 base ok (.slice (some ⟨W.heap.size + 1, 0, none⟩) (n + 1) G) (l.take i ++ x :: l.drop i) ∧ W.grownBy W3 (some g) := fun W3 h3 h4 => by
    have e : W3.heap[W.heap.size + 1]? = some (.cells ROW3 67 (0, 0)) := by rw [h3]; exact setRow_heap W2 _ ROW2 ROW3 _ _ hW2h
    have r := slices_Insert.row (base := base) (ok := ok) (xs := l.take i ++ x :: l.drop i) e (by omega) (hok _ (by omega)) (by rw [hlen]; exact hGn) hGm hR3s hR3t
    rw [hlen] at r
    refine ⟨r, ?_, ?_, ?_, ?_, fun k hk _ => ?_⟩
    · rw [h4.1]; exact o2.1
    · rw [h4.2.1]; exact o2.2.1
    · rw [h4.2.2]; exact o2.2.2
    · rw [h3]; show _ ≤ (W2.setRow _ _).heap.size; simp [World.setRow, z2]
    · rw [h3]
      rw [show (W2.setRow (W.heap.size + 1) ROW3).heap[k]? = W2.heap[k]? from by simp [World.setRow, Array.getElem?_modify, show ¬ (W.heap.size + 1 = k) by omega]]
      rw [K2 k (by omega)]; exact K0 k hk
  have EN' := mK EN
  have hm' : n ≤ 140737488355328 := by omega
  subst hn
  have q1 : (0 : Int) ≤ (i : Int) := by omega
  have q2 : (i : Int) ≤ (l.length : Int) := by omega
  have q3 : ¬ ((i : Int) = (l.length : Int)) := by omega
  have q4 : IntKind.i64.wrap ((l.length : Int) + 1) = (l.length : Int) + 1 := by rw [IntKind.wrap_i64]; omega
  have q6 : IntKind.i64.wrap ((l.length : Int) + 1 - (i : Int)) = ((l.length + 1 - i : Nat) : Int) := by rw [IntKind.wrap_i64]; omega
  have q7 : ¬ (l.length = i) := by omega
  have q8 : ¬ (G = i) := by omega
  have q9 : IntKind.i64.wrap ((i : Int) + 1) = (i : Int) + 1 := by rw [IntKind.wrap_i64]; omega
  have q10 : ¬ (G = i + 1) := by omega
  have q11 : ((i : Int) + 1).toNat = i + 1 := by omega
  have q12 : (0 : Int) ≤ (i : Int) + 1 := by omega
  have q13 : (i : Int) ≤ (l.length : Int) + 1 := by omega
  have q14 : (i : Int) + 1 ≤ (l.length : Int) + 1 := by omega
  have q15 : i * 3 < G * 3 := by omega
  clear hR hcs ht ht' hcm hokg hb hi0 hz0 hW0 hs0 hh0 hx0 hd' hW1 hW1h K1 K0 z1 o1 hx1 hsz one1 hROW2 hR2s hR2t hW2 hW2h K2 z2 o2 hd2 hROW3 hR3s hR3t EN hG hRs hRt hdl hlen m1 m2 hh hXl hgW
  go_enter Try.func104, Try.ntmps104
  go_wp2_with (first | (at_builtin; refine Lib.wpList_append_run _ rfl _ _ _ _ rfl _ _ rfl rfl _ _ hgr ?_) | (at_builtin; refine Lib.wpList_copy_run _ rfl _ _ 28 28 rfl _ _ rfl rfl (hcA _ _) ?_))
  go_region_law (refine slices_Insert.stepC rfl _ _ 28 28 rfl (.slice (some ⟨W.heap.size + 1, (i + 1) * 3, none⟩) (l.length + 1 - (i + 1)) (G - (i + 1))) (.slice (some ⟨g, i * 3, none⟩) (l.length - i) (l.length - i)) (by simp [Act.eval, Act.put]) (by simp [Act.eval, Act.put]) (hcB _ _ _) ?_)
  go_wp2
  go_ret
  exact ⟨_, rfl, (EN'.out (W2.drew.setRow (W.heap.size + 1) ROW3) rfl ⟨rfl, rfl, rfl⟩).1, (EN'.out (W2.drew.setRow (W.heap.size + 1) ROW3) rfl ⟨rfl, rfl, rfl⟩).2, .inr ⟨W.heap.size + 1, rfl, Nat.le_succ _⟩⟩
theorem slices_Insert.shifts (base g cap : Nat) (ok : Nat → Prop) (i : Nat) (l : List S67) (x : S67) (W : World) (hR : Kd.R k67 67 W base ok (.slice (some ⟨g, 0, none⟩) l.length cap) l) (hi : i < l.length) (hcap : l.length < cap) (hok : ∀ k, W.heap.size ≤ k → ok k) (hbase : base ≤ W.heap.size) (hl : (l.length + 1) * 40 ≤ 140737488355328) :
    Calls Try.prog 104 #[.slice (some ⟨g, 0, none⟩) l.length cap, .int .i64 (i : Int), .slice (some ⟨W.heap.size, 0, none⟩) 1 1] (W.alloc (.cells (slices_Insert.cs x).toArray 67)) fun e w' => ∃ v', e = .returned v' ∧ Kd.R k67 67 w' base ok v' (l.take i ++ x :: l.drop i) ∧ W.grownBy w' (Value.slice (some ⟨g, 0, none⟩) l.length cap).ownBlock ∧ (v'.ownBlock = (Value.slice (some ⟨g, 0, none⟩) l.length cap).ownBlock ∨ ∃ b, v'.ownBlock = some b ∧ W.heap.size ≤ b) := by
  have hu28 := Try.underlying28
  obtain ⟨cur, hh, hb, hokg, -, -, hcm, hcs, ht⟩ := slices_Insert.cells hR
  have hgW : g < W.heap.size := (Array.getElem?_eq_some_iff.1 hh).1
  obtain ⟨i0, hi0, hz0, hzs, hzb⟩ := info_parts info67
  obtain ⟨W0, hW0⟩ : ∃ W0, W0 = W.alloc (.cells (slices_Insert.cs x).toArray 67) := ⟨_, rfl⟩
  have hh0 : W0.heap[g]? = some (.cells cur 67 (0, 0)) := by rw [hW0]; exact (Below.heap_alloc W _ g hgW).trans hh
  have hv0 : W0.heap[W.heap.size]? = some (.cells (slices_Insert.cs x).toArray 67 (0, 0)) := by rw [hW0]; exact heap_alloc_new W _
  have z0 : W0.heap.size = W.heap.size + 1 := by rw [hW0]; unfold World.alloc; exact Array.size_push _
  have K0 : ∀ k, k < W.heap.size → W0.heap[k]? = W.heap[k]? := fun k hk => by rw [hW0]; exact Below.heap_alloc W _ k hk
  have o0 : W0.os = W.os ∧ W0.tape = W.tape ∧ W0.output = W.output := by rw [hW0]; exact ⟨rfl, rfl, rfl⟩
  obtain ⟨n, hn⟩ : ∃ n, n = l.length := ⟨_, rfl⟩
  have e2 : l.flatMap slices_Insert.cs = (l.take i).flatMap slices_Insert.cs ++ (l.drop i).flatMap slices_Insert.cs := by rw [← List.flatMap_append, List.take_append_drop]
  have hXl : ((l.take i).flatMap slices_Insert.cs).length = i * 3 := by rw [slices_Insert.cslen, List.length_take]; omega
  have hdl : ((l.drop i).flatMap slices_Insert.cs).length = (n - i) * 3 := by rw [slices_Insert.cslen, List.length_drop, hn]
  have ht' : cur.toList.take (i * 3) = (l.take i).flatMap slices_Insert.cs := by
    have e : cur.toList.take (i * 3) = (cur.toList.take (l.length * 3)).take (i * 3) := by rw [List.take_take, Nat.min_eq_left (by omega)]
    rw [e, ht, e2, List.take_left' hXl]
  have hd' : ∀ j v, ((l.drop i).flatMap slices_Insert.cs)[j]? = some v → W0.drew.cell? ((⟨g, i * 3, none⟩ : Addr).add j) = some v := fun j v hj => by
    have hj2 : (l.flatMap slices_Insert.cs)[i * 3 + j]? = some v := by
      rw [e2, List.getElem?_append_right (by omega), hXl, show i * 3 + j - i * 3 = j by omega]; exact hj
    rw [← ht, List.getElem?_take] at hj2
    split at hj2
    · rw [Addr.add_lit]
      show W0.cell? _ = _
      rw [bC hh0]; simpa using hj2
    · cases hj2
  have hsz : (Try.prog.info? 67).map (·.size) = some 3 := by rw [hi0]; simp [hzs]
  have hcs3 : (slices_Insert.cs x).length = 3 := rfl
  have m1 : Nat.min (n + 1 - i) (n + 1 - (i + 1)) = n - i := by simp only [Nat.min_def]; split <;> omega
  have m2 : Nat.min 1 (n + 1 - i) = 1 := by simp only [Nat.min_def]; rw [if_pos (by omega)]
  have one1 : ∀ v ∈ slices_Insert.cs x, v.oneCell' = true := fun v hv => slices_Insert.one [x] v (by simpa using hv)
  have hcA : ∀ ty dc sc, (Builtin.copy_ #[28, 28] ty #[.slice (some ⟨g, (i + 1) * 3, none⟩) (n + 1 - (i + 1)) dc, .slice (some ⟨g, i * 3, none⟩) (n + 1 - i) sc]).run Try.prog W0.drew = .ok (goInt ((n - i : Nat) : Int)) (W0.drew.setRow g (cur.toList.take ((i + 1) * 3) ++ (l.drop i).flatMap slices_Insert.cs ++ cur.toList.drop ((i + 1) * 3 + (n - i) * 3)).toArray) := fun ty dc sc => by
    have := slices_Insert.copy (P := Try.prog) W0.drew 28 28 ty 67 g ((i + 1) * 3) (n + 1 - (i + 1)) dc ⟨g, i * 3, none⟩ (n + 1 - i) sc cur 67 ((l.drop i).flatMap slices_Insert.cs) hu28 hsz hh0 (by rw [m1, hdl]) hd' (by rw [hdl, hcs]; omega) (slices_Insert.one _)
    rw [m1, hdl] at this
    exact this
  obtain ⟨ROW, hROW⟩ : ∃ r, r = (cur.toList.take ((i + 1) * 3) ++ (l.drop i).flatMap slices_Insert.cs ++ cur.toList.drop ((i + 1) * 3 + (n - i) * 3)).toArray := ⟨_, rfl⟩
  rw [← hROW] at hcA
  have hRs : ROW.size = cap * 3 := by
    rw [hROW, List.size_toArray, List.length_append, List.length_append, hdl, List.length_take, List.length_drop, Array.length_toList, hcs]
    omega
  have hRt : ROW.toList.take (i * 3) = (l.take i).flatMap slices_Insert.cs := by
    rw [hROW, List.toList_toArray, List.append_assoc, List.take_append_of_le_length (by rw [List.length_take, Array.length_toList, hcs]; omega), List.take_take, Nat.min_eq_left (by omega), ht']
  have hRd : (ROW.toList.drop (i * 3 + 3)).take ((n - i) * 3) = (l.drop i).flatMap slices_Insert.cs := by
    rw [hROW, List.toList_toArray, List.append_assoc, List.drop_append, List.drop_of_length_le (by rw [List.length_take]; omega), List.length_take, Array.length_toList, hcs, Nat.min_eq_left (by omega), show i * 3 + 3 - (i + 1) * 3 = 0 by omega, List.drop_zero, List.nil_append, List.take_left' hdl]
  obtain ⟨W1, hW1⟩ : ∃ W1, W1 = W0.drew.setRow g ROW := ⟨_, rfl⟩
  rw [← hW1] at hcA
  have hW1h : W1.heap[g]? = some (.cells ROW 67 (0, 0)) := by rw [hW1]; exact setRow_heap W0.drew _ cur ROW _ _ hh0
  have K1 : ∀ k, k ≠ g → W1.heap[k]? = W0.heap[k]? := fun k hk => by
    rw [hW1]; simp [World.setRow, Array.getElem?_modify, Ne.symm hk]; rfl
  have z1 : W1.heap.size = W.heap.size + 1 := by rw [hW1]; show (W0.heap.modify _ _).size = _; rw [Array.size_modify, z0]
  have o1 : W1.os = W.os ∧ W1.tape = W.tape ∧ W1.output = W.output := by rw [hW1]; exact o0
  have hx1 : ∀ j v, (slices_Insert.cs x)[j]? = some v → W1.cell? ((⟨W.heap.size, 0, none⟩ : Addr).add j) = some v := fun j v hj => by
    rw [Addr.add_lit, Nat.zero_add]
    rw [bC ((K1 W.heap.size (by omega)).trans hv0)]
    simpa using hj
  have hcB : ∀ ty dc, (Builtin.copy_ #[28, 28] ty #[.slice (some ⟨g, i * 3, none⟩) (n + 1 - i) dc, .slice (some ⟨W.heap.size, 0, none⟩) 1 1]).run Try.prog W1 = .ok (goInt 1) (W1.setRow g (ROW.toList.take (i * 3) ++ slices_Insert.cs x ++ ROW.toList.drop (i * 3 + 3)).toArray) := fun ty dc => by
    have := slices_Insert.copy (P := Try.prog) W1 28 28 ty 67 g (i * 3) (n + 1 - i) dc ⟨W.heap.size, 0, none⟩ 1 1 ROW 67 (slices_Insert.cs x) hu28 hsz hW1h (by rw [m2, hcs3]) hx1 (by rw [hcs3, hRs]; omega) one1
    rw [m2, hcs3] at this
    exact this
  obtain ⟨ROW2, hROW2⟩ : ∃ r, r = (ROW.toList.take (i * 3) ++ slices_Insert.cs x ++ ROW.toList.drop (i * 3 + 3)).toArray := ⟨_, rfl⟩
  rw [← hROW2] at hcB
  have hR2s : ROW2.size = cap * 3 := by
    rw [hROW2, List.size_toArray, List.length_append, List.length_append, hcs3, List.length_take, List.length_drop, Array.length_toList, hRs]
    omega
  have hlen : (l.take i ++ x :: l.drop i).length = n + 1 := by rw [List.length_append, List.length_cons, List.length_take, List.length_drop]; omega
  have hR2t : ROW2.toList.take ((l.take i ++ x :: l.drop i).length * 3) = (l.take i ++ x :: l.drop i).flatMap slices_Insert.cs := by
    rw [hROW2, List.toList_toArray, hRt, hlen, show (n + 1) * 3 = (((l.take i).flatMap slices_Insert.cs ++ slices_Insert.cs x).length) + (n - i) * 3 by rw [List.length_append, hXl, hcs3]; omega, List.take_length_add_append, hRd]
    simp
  have EN : Kd.R k67 67 (W1.setRow g ROW2) base ok (.slice (some ⟨g, 0, none⟩) (n + 1) cap) (l.take i ++ x :: l.drop i) ∧ W.grownBy (W1.setRow g ROW2) (some g) := by
    have e : (W1.setRow g ROW2).heap[g]? = some (.cells ROW2 67 (0, 0)) := setRow_heap W1 _ ROW ROW2 _ _ hW1h
    have r := slices_Insert.row (base := base) (ok := ok) (xs := l.take i ++ x :: l.drop i) e hb hokg (by rw [hlen]; omega) hcm hR2s hR2t
    rw [hlen] at r
    refine ⟨r, o1.1, o1.2.1, o1.2.2, ?_, fun k hk hne => ?_⟩
    · simp [World.setRow, z1]
    · have hkg : k ≠ g := fun e => hne (by rw [e])
      rw [show (W1.setRow g ROW2).heap[k]? = W1.heap[k]? from by simp [World.setRow, Array.getElem?_modify, Ne.symm hkg]]
      rw [K1 k hkg]; exact K0 k hk
  have hov : ∀ lb cb, (callFunc 113 #[.slice (some ⟨W.heap.size, 0, none⟩) 1 1, .slice (some ⟨g, (i + 1) * 3, none⟩) lb cb]).run Try.prog W0 = .ok (.value (.bool false)) W0 := fun lb cb => by
    rw [run_callFunc_extern Try.func113 (by kernel_rfl) (by kernel_rfl) (by kernel_rfl) (e := Extern.SlicesOverlaps.overlaps #[28, 28] #[4]) (by kernel_rfl),
      Lib.run_overlaps_apart W0 28 4 67 hu28 3 (fun w => by kernel_rfl) ⟨W.heap.size, 0, none⟩ ⟨g, (i + 1) * 3, none⟩ 1 1 lb cb (by show W.heap.size ≠ g; omega) 67 67 3 (cap * 3) (by simp [World.shape?, hv0]; rfl) (by simp [World.shape?, hh0, hcs]) (by omega) (bF hv0 _) (bF hv0 _)]
    rfl
  have EN' := mK EN
  have hm' : n ≤ 140737488355328 := by omega
  have hcm' : cap ≤ 9223372036854775807 := by unfold maxLen at hcm; omega
  subst hn
  rw [← hW0]
  have q1 : (0 : Int) ≤ (i : Int) := by omega
  have q2 : (i : Int) ≤ (l.length : Int) := by omega
  have q3 : ¬ ((i : Int) = (l.length : Int)) := by omega
  have q4 : IntKind.i64.wrap ((l.length : Int) + 1) = (l.length : Int) + 1 := by rw [IntKind.wrap_i64]; omega
  have q5 : ¬ ((cap : Int) < (l.length : Int) + 1) := by omega
  have q7 : ¬ (cap = i) := by omega
  have q9 : IntKind.i64.wrap ((i : Int) + 1) = (i : Int) + 1 := by rw [IntKind.wrap_i64]; omega
  have q10 : ¬ (cap = i + 1) := by omega
  have q11 : ((i : Int) + 1).toNat = i + 1 := by omega
  have q12 : (0 : Int) ≤ (i : Int) + 1 := by omega
  have q13 : (i : Int) ≤ (l.length : Int) + 1 := by omega
  have q14 : (i : Int) + 1 ≤ (l.length : Int) + 1 := by omega
  have q16 : (l.length : Int) ≤ (cap : Int) := by omega
  have q17 : (l.length : Int) + 1 ≤ (cap : Int) := by omega
  have q18 : ((l.length : Int) + 1).toNat = l.length + 1 := by omega
  have q19 : (0 : Int) ≤ (l.length : Int) + 1 := by omega
  clear hR hcs ht ht' hcm hokg hb hi0 hz0 hW0 hh0 hd' hW1 hW1h K1 K0 z1 z0 o1 o0 hx1 hsz one1 hROW2 hR2s hR2t hROW EN hRs hRt hRd hdl hlen m1 m2 hh hXl hgW hv0 e2
  go_enter Try.func104, Try.ntmps104
  go_wp2_with (simp only [hov])
  go_region_law (refine slices_Insert.stepC rfl _ _ 28 28 rfl (.slice (some ⟨g, (i + 1) * 3, none⟩) (l.length + 1 - (i + 1)) (cap - (i + 1))) (.slice (some ⟨g, i * 3, none⟩) (l.length + 1 - i) (cap - i)) (by simp [Act.eval, Act.put]) (by simp [Act.eval, Act.put]) (hcA _ _ _) ?_)
  go_wp2_with (at_builtin; refine Lib.wpList_copy_run _ rfl _ _ 28 28 rfl _ _ rfl rfl (hcB _ _) ?_)
  go_ret
  exact ⟨_, rfl, EN'.out.1, EN'.out.2, .inl rfl⟩
theorem slices_Insert.walk (base : Nat) (ok : Nat → Prop) (A : Option Addr) (cap i : Nat) (l : List S67) (x : S67) (w0 W : World) (hR : Kd.R k67 67 W base ok (.slice A l.length cap) l) (hi : i ≤ l.length) (hok : ∀ k, W.heap.size ≤ k → ok k) (hB : Below base w0 W) (hbase : base ≤ W.heap.size) (hl : (l.length + 1) * 40 ≤ 140737488355328) :
    Calls Try.prog 104 #[.slice A l.length cap, .int .i64 (i : Int), .slice (some ⟨W.heap.size, 0, none⟩) 1 1] (W.alloc (.cells (slices_Insert.cs x).toArray 67)) fun e w' => ∃ v', e = .returned v' ∧ Kd.R k67 67 w' base ok v' (l.take i ++ x :: l.drop i) ∧ W.grownBy w' (Value.slice A l.length cap).ownBlock ∧ (v'.ownBlock = (Value.slice A l.length cap).ownBlock ∨ ∃ b, v'.ownBlock = some b ∧ W.heap.size ≤ b) := by
  rcases Nat.eq_or_lt_of_le hi with rfl | hlt
  · have := slices_Insert.atEnd base ok A cap l x w0 W hR hok hB hbase hl
    simpa using this
  · obtain ⟨hn, hnc, _⟩ := rR hR
    obtain ⟨go, cap', eo, gb, gl, cells, hgo⟩ := Kd.R_form hR (by omega)
    obtain ⟨rfl, -, rfl⟩ := Value.slice.inj eo
    rcases Nat.eq_or_lt_of_le hnc with rfl | hc
    · exact slices_Insert.grows base go ok i l x W hR hlt hok hbase hl
    · exact slices_Insert.shifts base go cap ok i l x W hR hlt hc hok hbase hl
theorem impl_Store.bound (s : ByteArray) (l : List S67) (y i : Int) (b : Bool) (h : impl_Device_find.f s l y = some (i, b)) : 0 ≤ i ∧ i ≤ (l.length : Int) ∧ (b = true → i < (l.length : Int)) := by
  unfold impl_Device_find.f at h
  split at h
  · split at h
    · obtain ⟨rfl, rfl⟩ := Prod.mk.inj (Option.some.inj h)
      refine ⟨by omega, ?_, fun hb => ?_⟩
      · have := List.countP_le_length (p := fun x : S67 => decide (x.f0 < y)) (l := l)
        unfold impl_Device_find.idx; omega
      · simp only [Bool.and_eq_true, decide_eq_true_eq] at hb
        omega
    · cases h
  · cases h
def impl_Store.ins (s : ByteArray) (l : List S67) (y i : Int) (b : Bool) : Option (List S67) := if b = true then some l else (impl_Device_safeLine.f s l y).bind fun z => if l.length < 3518437208883 then some (l.take i.toNat ++ ⟨y, z, (⟨#[]⟩ : ByteArray)⟩ :: l.drop i.toNat) else none
def impl_Store.fin (l : List S67) (m : Int) (t : ByteArray) (i : Int) : Option (List S67) := (impl_replaced.f (rd_T67 l i).f1 m t).bind fun z => some (l.set i.toNat ⟨(rd_T67 l i).f0, z, (rd_T67 l i).f2⟩)
theorem impl_Store.store (base g : Nat) (ok : Nat → Prop) (s : ByteArray) (A : Option Addr) (c : Nat) (l : List S67) (a y m : Int) (t : ByteArray) (i : Int) (b : Bool) (L L2 : List S67) (w0 w : World) (hy : y = wrap64 (Int.tdiv a 64)) (hm : m = Int.tmod a 64) (hbk : w.heap[g]? = some (.cells #[.string s, .slice A l.length c] 30 (0, 0)))
    (hR : Kd.R k67 67 w base ok (.slice A l.length c) l) (hok : ∀ k, ok k → k ≠ g) (hfr : ∀ k, w.heap.size ≤ k → ok k) (hB : Below base w0 w) (hbw : base ≤ w.heap.size) (hgb : base ≤ g) (hf : impl_Device_find.f s l y = some (i, b)) (hi : impl_Store.ins s l y i b = some L) (hfi : impl_Store.fin L m t i = some L2) :
    Calls Try.prog 79 #[.pointer (some ⟨g, 0, none⟩), .int .i64 a, .string t] w fun e w' => e = .returned (.tuple #[]) ∧ ∃ v', w'.heap[g]? = some (.cells #[.string s, v'] 30 (0, 0)) ∧ Kd.R k67 67 w' base ok v' L2 ∧ Below base w0 w' ∧ w.heap.size ≤ w'.heap.size ∧ ∀ k, k < w.heap.size → k ≠ g → some k ≠ (Value.slice A l.length c).ownBlock → w'.heap[k]? = w.heap[k]? := by
  have hu30 := Try.underlying30
  have hu67 := Try.underlying67
  obtain ⟨i0, il, ib⟩ := impl_Store.bound s l y i b hf
  have F := mK hf
  have BK := mK hbk
  have HR := mK hR
  have HB := mK hB
  have OK := mK hok
  have FR := mK hfr
  have q3 : IntKind.i64.wrap (Int.tdiv a 64) = y := by rw [i64_w]; exact hy.symm
  have q4 : Int.tmod a 64 = m := hm.symm
  have hcz0 : w.cell? ⟨g, 0, none⟩ = some (.string s) := (bC BK.out 0).trans rfl
  have hcz1 : w.cell? ⟨g, 1, none⟩ = some (.slice A l.length c) := (bC BK.out 1).trans rfl
  have hgW : g < w.heap.size := blk_lt BK.out
  clear hf hbk hR hB hok hfr hy hm
  obtain ⟨n, rfl⟩ := Int.eq_ofNat_of_zero_le i0
  unfold impl_Store.fin at hfi
  obtain ⟨z2, hz2, hfi⟩ := Option.bind_eq_some_iff.mp hfi
  obtain rfl := Option.some.inj hfi
  clear hfi
  have RP := mK hz2
  clear hz2
  by_cases hb1 : b = true
  · subst hb1
    have i1 := ib rfl
    clear ib
    unfold impl_Store.ins at hi
    rw [if_pos rfl] at hi
    obtain rfl := Option.some.inj hi
    clear hi
    have hpos : 0 < l.length := by omega
    obtain ⟨go, cap, eo, gb, gl, cells, hgo⟩ := Kd.R_form HR.out hpos
    obtain ⟨rfl, -, rfl⟩ := Value.slice.inj eo
    clear eo
    go_enter Try.func79, Try.ntmps79
    go_wp2_with (go_at_call 76; (with_reducible refine (impl_Device_find.calls s _ _ l y (n : Int) true _ ?side1 ?side2 F.out).mono ?_); (case side1 => exact (rR HR.out).2.2); (case side2 => exact (rR HR.out).2.1); rintro e w2 ⟨rfl, hb⟩; have n0_ := mK (HB.out.trans (hb.mono hbw)); have n1_ := mK (bB BK.out hb); have n2_ := mK (rB HR.out hb); have n3_ := mK hb; clear HB BK HR hcz0 hcz1; have HB := n0_; have BK := n1_; have HR := n2_; have HBB := n3_; clear n0_ n1_ n2_ n3_ hb)
    have n1 : n < l.length := by omega
    have DR := mK (rD HR.out)
    obtain ⟨ce, hcl, hM, hcc, hfr⟩ := Kd.R_elem DR.out z67 (n : Int) (by omega) (by omega)
    obtain rfl := k67_openM hM
    have HP := mK (Kd.R_seg DR.out (n : Int) (by omega) (by omega) (seg := [.string z2]) (j := 1) hcl hcc (show 2 ≤ 3 from by decide) (x' := (⟨(rd_T67 l (n : Int)).f0, z2, (rd_T67 l (n : Int)).f2⟩ : S67)) (k67_mkM _ _ _ (⟨(rd_T67 l (n : Int)).f0, z2, (rd_T67 l (n : Int)).f2⟩ : S67)) (fun _ hk => hk))
    have hx1 : w2.drew.cell? ⟨go, n * 3 + 1, none⟩ = some (.string (rd_T67 l (n : Int)).f1) := hcc 1 _ rfl
    have hf1 : w2.drew.frozen? ⟨go, n * 3 + 1, none⟩ = false := hfr 1
    have hx1' : w2.cell? ⟨go, n * 3 + 1, none⟩ = some (.string (rd_T67 l (n : Int)).f1) := hx1
    have hf1' : w2.frozen? ⟨go, n * 3 + 1, none⟩ = false := hf1
    have hcz0 : w2.drew.cell? ⟨g, 0, none⟩ = some (.string s) := (bC (bD BK.out) 0).trans rfl
    have hcz1 : w2.drew.cell? ⟨g, 1, none⟩ = some (.slice (some ⟨go, 0, none⟩) l.length c) := (bC (bD BK.out) 1).trans rfl
    have hcz0' : w2.cell? ⟨g, 0, none⟩ = some (.string s) := hcz0
    have hcz1' : w2.cell? ⟨g, 1, none⟩ = some (.slice (some ⟨go, 0, none⟩) l.length c) := hcz1
    have nok : go ≠ g := OK.out go (HR.out.1 go (by simp [Value.ownBlock]))
    generalize hxx : rd_T67 l (n : Int) = x at *
    have EP := mK hxx
    clear hcl hM hcc hfr F hxx
    go_wp2
    go_region_law (refine goes_ Try.func62 (by kernel_rfl) rfl #[.string x.f1, .int .i64 m, .string t] (by simp [Region.wanted]) rfl rfl (by first | rfl | (simp [Act.eval, Act.put]; done)) ?_; (with_reducible refine (impl_replaced.calls x.f1 m t z2 _ RP.out).mono ?_); rintro e w11 ⟨rfl, ⟨nd, rfl⟩⟩; refine ⟨_, rfl, ?_⟩)
    all_goals
      go_wp2
      go_end0
      rw [EP.out]
      refine ⟨rfl, _, blk_far (bN BK.out _) nok.symm _, Kd.R_move HP.out.1 (fun _ _ => rfl), (lN HB.out _).setCell (p := ⟨go, _, none⟩) gb _, ?_, fun k0 hk0 hkg hne => ?_⟩
      · have := HBB.out.size; simpa [World.setCell] using this
      · have hne' : go ≠ k0 := fun e => hne (by rw [← e]; simp [Value.ownBlock])
        exact (Below.heap_setCell _ _ _ k0 hne'.symm).trans (HBB.out.block k0 hk0)
  · replace hb1 := Bool.eq_false_iff.mpr hb1
    subst hb1
    clear ib
    unfold impl_Store.ins at hi
    rw [if_neg (by decide)] at hi
    obtain ⟨z, hz, hi⟩ := Option.bind_eq_some_iff.mp hi
    have SL := mK hz
    clear hz
    by_cases hlm : l.length < 3518437208883
    · rw [if_pos hlm] at hi
      obtain rfl := Option.some.inj hi
      clear hi
      rw [show ((n : Int)).toNat = n from Int.toNat_natCast n] at *
      have HLm := mK hlm
      have nl : n ≤ l.length := by omega
      clear hlm il i0
      have hLl : (l.take n ++ (⟨y, z, (⟨#[]⟩ : ByteArray)⟩ : S67) :: l.drop n).length = l.length + 1 := by rw [List.length_append, List.length_cons, List.length_take, List.length_drop]; omega
      have HLl := mK hLl
      have NL := mK nl
      clear hLl nl
      have LL : ∃ LL, LL = l.take n ++ (⟨y, z, (⟨#[]⟩ : ByteArray)⟩ : S67) :: l.drop n := ⟨_, rfl⟩
      obtain ⟨LL, hLL⟩ := LL
      rw [← hLL] at HLl RP ⊢
      have EL := mK hLL
      clear hLL
      go_enter Try.func79, Try.ntmps79
      go_wp2_with (go_at_call 76; (with_reducible refine (impl_Device_find.calls s _ _ l y (n : Int) false _ ?side1 ?side2 F.out).mono ?_); (case side1 => exact (rR HR.out).2.2); (case side2 => exact (rR HR.out).2.1); rintro e w2 ⟨rfl, hb⟩; have n0_ := mK (HB.out.trans (hb.mono hbw)); have n1_ := mK (bB BK.out hb); have n2_ := mK (rB HR.out hb); have n3_ := mK hb; clear HB BK HR hcz0 hcz1; have HB := n0_; have BK := n1_; have HR := n2_; have HBB := n3_; clear n0_ n1_ n2_ n3_ hb)
      have hcz0' : w2.cell? ⟨g, 0, none⟩ = some (.string s) := (bC BK.out 0).trans rfl
      have hcz1' : w2.cell? ⟨g, 1, none⟩ = some (.slice A l.length c) := (bC BK.out 1).trans rfl
      have hcz0 : w2.drew.cell? ⟨g, 0, none⟩ = some (.string s) := hcz0'
      have hcz1 : w2.drew.cell? ⟨g, 1, none⟩ = some (.slice A l.length c) := hcz1'
      have HB2 := mK (show base ≤ w2.drew.heap.size from Nat.le_trans hbw HBB.out.size)
      go_wp2
      go_region_law (first
        | (refine goes_ Try.func58 (by kernel_rfl) rfl #[.agg #[.string s, .slice A l.length c], .int .i64 y] (by simp [Region.wanted]) rfl rfl (by first | rfl | (simp [Act.eval, Act.put]; done)) ?_; (refine (impl_Device_safeLine.calls s A c l y z _ ?side1 ?side2 SL.out).mono ?_); (case side1 => exact (rR (rD HR.out)).2.2); (case side2 => exact (rR HR.out).2.1); rintro e w3 ⟨rfl, hb⟩; refine ⟨_, rfl, ?_⟩; have n0_ := mK ((lD HB.out).trans (hb.mono HB2.out)); have n1_ := mK (bB (bD BK.out) hb); have n2_ := mK (rB (rD HR.out) hb); have n3_ := mK ((lD HBB.out).trans (hb.mono HBB.out.size)); clear HB BK HR HBB hcz0 hcz1 hcz0' hcz1'; have HB := n0_; have BK := n1_; have HR := n2_; have HBB := n3_; clear n0_ n1_ n2_ n3_ hb; have hcz0 : w3.cell? ⟨g, 0, none⟩ = some (.string s) := (bC BK.out 0).trans rfl; have hcz1 : w3.cell? ⟨g, 1, none⟩ = some (.slice A l.length c) := (bC BK.out 1).trans rfl; have hal1 : ∀ o, (w3.alloc o).cell? ⟨g, 1, none⟩ = some (.slice A l.length c) := fun o => (bC (bA BK.out o) 1).trans rfl)
        | (refine goes_ Try.func104 (by kernel_rfl) rfl #[.slice A l.length c, .int .i64 (n : Int), .slice (some ⟨w3.heap.size, 0, none⟩) 1 1] (by simp [Region.wanted]) rfl rfl (by first | rfl | (simp [Act.eval, Act.put]; done)) ?_; (refine (slices_Insert.walk base ok A c n l (⟨y, z, (⟨#[]⟩ : ByteArray)⟩ : S67) w0 w3 HR.out NL.out ?side1 HB.out ?side2 ?side3).mono ?_); (case side1 => exact fun k hk => FR.out k (Nat.le_trans HBB.out.size hk)); (case side2 => exact Nat.le_trans hbw HBB.out.size); (case side3 => have := HLm.out; omega); rintro e w4 ⟨v4, rfl, hR4, hg4, hat4⟩; refine ⟨_, rfl, ?_⟩; rw [← EL.out] at hR4; obtain ⟨A4, c4, e4⟩ := Kd.R_slice hR4; subst e4; have BK4 := mK ((hg4.block g (blk_lt BK.out) (Kd.R_away HR.out OK.out)).trans BK.out); have HR4 := mK hR4; have HG4 := mK hg4; have HA4 := mK hat4; clear hR4 hg4 hat4 hcz0 hcz1 hal1; have hcz0 : w4.cell? ⟨g, 0, none⟩ = some (.string s) := (bC BK4.out 0).trans rfl; have hcz1 : w4.cell? ⟨g, 1, none⟩ = some (.slice A l.length c) := (bC BK4.out 1).trans rfl; have hfz1 := bF BK4.out 1))
      all_goals
        have HR5 : Kd.R k67 67 (w4.setCell ⟨g, 1, none⟩ (.slice A4 LL.length c4)) base ok (.slice A4 LL.length c4) LL := Kd.R_far (p := ⟨g, 1, none⟩) HR4.out (fun k hk => OK.out k hk) _
        have BK5 := mK (show (w4.setCell ⟨g, 1, none⟩ (.slice A4 LL.length c4)).heap[g]? = some (.cells #[.string s, .slice A4 LL.length c4] 30 (0, 0)) from blk_put BK4.out 1 _ rfl)
        have HB5 := mK ((HB.out.grown HG4.out (Nat.le_trans hbw HBB.out.size) (Kd.R_base HR.out)).setCell (p := ⟨g, 1, none⟩) hgb (.slice A4 LL.length c4))
        have SZ5 := mK (show w.heap.size ≤ (w4.setCell ⟨g, 1, none⟩ (.slice A4 LL.length c4)).heap.size by have h1 := HBB.out.size; have h2 := HG4.out.size; simp [World.setCell]; omega)
        have FM5 := mK (show ∀ k, k < w.heap.size → k ≠ g → some k ≠ (Value.slice A l.length c).ownBlock → (w4.setCell ⟨g, 1, none⟩ (.slice A4 LL.length c4)).heap[k]? = w.heap[k]? from fun k hk hkg hne => (Below.heap_setCell _ _ _ k hkg).trans ((HG4.out.block k (Nat.lt_of_lt_of_le hk HBB.out.size) hne).trans (HBB.out.block k hk)))
        have GN := mK (show ∀ k, k < w.heap.size → some k ≠ (Value.slice A l.length c).ownBlock → some k ≠ (Value.slice A4 LL.length c4).ownBlock from fun k hk hne => by
          rcases HA4.out with h | ⟨b, h, hb⟩
          · rw [h]; exact hne
          · rw [h]; intro e; injection e with e; have := HBB.out.size; omega)
        generalize w4.setCell ⟨g, 1, none⟩ (.slice A4 LL.length c4) = W5 at *
        have nL : n < LL.length := by have h1 := HLl.out; have h2 := NL.out; omega
        have HR5 := mK HR5
        obtain ⟨go, cap, eo, gb, gl, cells, hgo⟩ := Kd.R_form HR5.out (by omega)
        obtain ⟨rfl, -, rfl⟩ := Value.slice.inj eo
        clear eo hgo HR4 BK4 HG4 HA4 HB BK HR HBB hcz0 hcz1 hfz1 cells gl F FR
        have DR := mK (rD HR5.out)
        obtain ⟨ce, hcl, hM, hcc, hfr⟩ := Kd.R_elem DR.out z67 (n : Int) (by omega) (by omega)
        obtain rfl := k67_openM hM
        have HP := mK (Kd.R_seg DR.out (n : Int) (by omega) (by omega) (seg := [.string z2]) (j := 1) hcl hcc (show 2 ≤ 3 from by decide) (x' := (⟨(rd_T67 LL (n : Int)).f0, z2, (rd_T67 LL (n : Int)).f2⟩ : S67)) (k67_mkM _ _ _ (⟨(rd_T67 LL (n : Int)).f0, z2, (rd_T67 LL (n : Int)).f2⟩ : S67)) (fun _ hk => hk))
        have hx1 : W5.drew.cell? ⟨go, n * 3 + 1, none⟩ = some (.string (rd_T67 LL (n : Int)).f1) := hcc 1 _ rfl
        have hf1 : W5.drew.frozen? ⟨go, n * 3 + 1, none⟩ = false := hfr 1
        have hx1' : W5.cell? ⟨go, n * 3 + 1, none⟩ = some (.string (rd_T67 LL (n : Int)).f1) := hx1
        have hf1' : W5.frozen? ⟨go, n * 3 + 1, none⟩ = false := hf1
        have hcz0 : W5.drew.cell? ⟨g, 0, none⟩ = some (.string s) := (bC (bD BK5.out) 0).trans rfl
        have hcz1 : W5.drew.cell? ⟨g, 1, none⟩ = some (.slice (some ⟨go, 0, none⟩) LL.length c4) := (bC (bD BK5.out) 1).trans rfl
        have hcz0' : W5.cell? ⟨g, 0, none⟩ = some (.string s) := hcz0
        have hcz1' : W5.cell? ⟨g, 1, none⟩ = some (.slice (some ⟨go, 0, none⟩) LL.length c4) := hcz1
        have nok : go ≠ g := OK.out go (HR5.out.1 go (by simp [Value.ownBlock]))
        have RP' := mK (show impl_replaced.f (rd_T67 LL (n : Int)).f1 m t = some z2 from RP.out)
        generalize hxx : rd_T67 LL (n : Int) = x at *
        have EP := mK hxx
        clear hcl hM hcc hfr hxx RP
        go_wp2
        go_region_law (refine goes_ Try.func62 (by kernel_rfl) rfl #[.string x.f1, .int .i64 m, .string t] (by simp [Region.wanted]) rfl rfl (by first | rfl | (simp [Act.eval, Act.put]; done)) ?_; (with_reducible refine (impl_replaced.calls x.f1 m t z2 _ RP'.out).mono ?_); rintro e w11 ⟨rfl, ⟨nd, rfl⟩⟩; refine ⟨_, rfl, ?_⟩)
        all_goals
          go_wp2
          go_end0
          rw [EP.out]
          refine ⟨rfl, _, blk_far (bN BK5.out _) nok.symm _, Kd.R_move HP.out.1 (fun _ _ => rfl), (lN HB5.out _).setCell (p := ⟨go, _, none⟩) gb _, ?_, fun k0 hk0 hkg hne => ?_⟩
          · have := SZ5.out; simpa [World.setCell] using this
          · have hne' : go ≠ k0 := fun e => GN.out k0 hk0 hne (by rw [← e]; simp [Value.ownBlock])
            exact (Below.heap_setCell _ _ _ k0 hne'.symm).trans (FM5.out k0 hk0 hkg hne)
    · rw [if_neg hlm] at hi; cases hi
theorem impl_Store.drawn {W W1 : World} (h : Drawn0 W W1) : Below W.heap.size W W1 := by
  obtain ⟨nd, rfl⟩ := h
  exact lN (Below.refl _ _) nd
def impl_Store.f (k : Nat) (a0_0 : ByteArray) (l0_1 : List S67) (a1 : Int) (a2 : ByteArray) : Option (ByteArray × (List (S67)) × Bool) := (impl_DeviceOk.f k a0_0 l0_1).bind fun t => if t = true then (if a1 < 0 then some ((⟨#[]⟩ : ByteArray), [], false) else if a1 < (a0_0.size : Int) then ((impl_within.f (a2.size : Int) 1 (wrap64 (64 - Int.tmod a1 64))).bind fun u => if u = true then ((impl_Device_own.f a0_0 l0_1).bind fun o => (impl_Device_find.f o.1 o.2 (wrap64 (Int.tdiv a1 64))).bind fun q => (impl_Store.ins o.1 o.2 (wrap64 (Int.tdiv a1 64)) q.1 q.2).bind fun L => (impl_Store.fin L (Int.tmod a1 64) a2 q.1).bind fun L2 => some (o.1, L2, true)) else some ((⟨#[]⟩ : ByteArray), [], false)) else some ((⟨#[]⟩ : ByteArray), [], false)) else some ((⟨#[]⟩ : ByteArray), [], false)
theorem impl_Store.mono : ∀ a0 a1 a2 a3 k, LeO (impl_Store.f k a0 a1 a2 a3) (impl_Store.f (k + 1) a0 a1 a2 a3) := by
  intro a0 a1 a2 a3 k
  unfold impl_Store.f
  exact LeO.bind (impl_DeviceOk.mono _ _ _) (fun t => LeO.refl _)
theorem impl_Store.calls (k : Nat) (a0_0 : ByteArray) (A0_1 : Option Addr) (c0_1 : Nat) (l0_1 : List (S67)) (a1 : Int) (a2 : ByteArray) (r1 : ByteArray) (r2 : List (S67)) (r3 : Bool) (w : World) (hr0_1 : Kd.C k67 w A0_1 l0_1.length l0_1) (hc0_1 : l0_1.length ≤ c0_1) (h : impl_Store.f k a0_0 l0_1 a1 a2 = some (r1, r2, r3)) :
    Calls Try.prog 40 #[.agg #[.string a0_0, .slice A0_1 l0_1.length c0_1], .int .i64 a1, .string a2] w fun e w' => ∃ v1_ : Value, e = .returned (.tuple #[.agg #[.string r1, v1_], .bool r3]) ∧ Kd.R k67 67 w' w.heap.size (fun _ => True) v1_ r2 ∧ Below w.heap.size w w' := by
 have hu30 := Try.underlying30; have HR := mK hr0_1; have HC := mK hc0_1; clear hr0_1 hc0_1; have HB := mK (Below.refl w.heap.size w); unfold impl_Store.f at h; obtain ⟨t, ht, h⟩ := Option.bind_eq_some_iff.mp h; have T := mK ht; clear ht; by_cases ct : t = true
 ·subst ct; rw [if_pos rfl] at h; by_cases ca : a1 < 0
  ·rw [if_pos ca] at h; simp only [Option.some.injEq, Prod.mk.injEq] at h; obtain ⟨rfl, rfl, rfl⟩ := h; have cb : decide (a1 < 0) = true := decide_eq_true ca; clear ca; go_enter Try.func40, Try.ntmps40; go_wp2_with (first | ((with_reducible refine gate_dst (N := 3) rfl ?_); refine box_event ?hg (N := 3) ?hd (cs := #[.string a0_0, .slice A0_1 l0_1.length c0_1]) (t := 30) ?hr ?_; (case hd => rfl); (case hg => rfl); (case hr => first | (go_simp; done) | (go_simp; rfl)); intro gd hg w4 hbox hb; have n0_ := mK (lT HB.out hb); have n1_ := mK hbox; have n3_ := mK (by rw [hg]; exact (below_size HB.out) : w.heap.size ≤ gd); clear HB; have HB := n0_; have BK := n1_; have GE := n3_; clear n0_ n1_ n3_; clear hb hbox hg; have hcz0 : w4.cell? ⟨gd, 0, none⟩ = some (.string a0_0) := (bC BK.out 0).trans rfl; have hcz1 : w4.cell? ⟨gd, 1, none⟩ = some (.slice A0_1 l0_1.length c0_1) := (bC BK.out 1).trans rfl) | ((with_reducible refine gate_dst (N := 6) rfl ?_); refine box_event ?hg (N := 6) ?hd (cs := #[.string (⟨#[]⟩ : ByteArray), .slice none 0 0]) (t := 30) ?hr ?_; (case hd => rfl); (case hg => rfl); (case hr => first | (go_simp; done) | (go_simp; rfl)); intro gr hg w5 hbox hb; have n0_ := mK (lT HB.out hb); have n1_ := mK hbox; have n2_ := mK (bB BK.out hb); have n3_ := mK (by rw [hg]; exact (below_size HB.out) : w.heap.size ≤ gr); have n4_ := mK (by rw [hg]; exact Nat.ne_of_lt (blk_lt BK.out) : gd ≠ gr); clear HB BK hcz0 hcz1; have HB := n0_; have BKr := n1_; have BK := n2_; have GEr := n3_; have NEr := n4_; clear n0_ n1_ n2_ n3_ n4_; clear hb hbox hg; have hcz0 : w5.cell? ⟨gd, 0, none⟩ = some (.string a0_0) := (bC BK.out 0).trans rfl; have hcz1 : w5.cell? ⟨gd, 1, none⟩ = some (.slice A0_1 l0_1.length c0_1) := (bC BK.out 1).trans rfl; have hcr0 : w5.cell? ⟨gr, 0, none⟩ = some (.string (⟨#[]⟩ : ByteArray)) := (bC BKr.out 0).trans rfl; have hcr1 : w5.cell? ⟨gr, 1, none⟩ = some (.slice none 0 0) := (bC BKr.out 1).trans rfl; have hfr0 := bF BKr.out 0; have hfr1 := bF BKr.out 1) | (go_at_call 45; (with_reducible refine (impl_DeviceOk.calls k a0_0 _ _ l0_1 true _ ?side1 ?side2 T.out).mono ?_); (case side1 => exact cB HR.out HB.out); (case side2 => exact HC.out); rintro e w6 ⟨rfl, hb⟩; have n0_ := mK (lT HB.out hb); have n1_ := mK (bB BK.out hb); have n2_ := mK (bB BKr.out hb); clear HB BK BKr hcz0 hcz1 hcr0 hcr1 hfr0 hfr1; have HB := n0_; have BK := n1_; have BKr := n2_; clear n0_ n1_ n2_ hb; have hcz0 : w6.cell? ⟨gd, 0, none⟩ = some (.string a0_0) := (bC BK.out 0).trans rfl; have hcz1 : w6.cell? ⟨gd, 1, none⟩ = some (.slice A0_1 l0_1.length c0_1) := (bC BK.out 1).trans rfl; have hcr0 : w6.cell? ⟨gr, 0, none⟩ = some (.string (⟨#[]⟩ : ByteArray)) := (bC BKr.out 0).trans rfl; have hcr1 : w6.cell? ⟨gr, 1, none⟩ = some (.slice none 0 0) := (bC BKr.out 1).trans rfl; have hfr0 := bF BKr.out 0; have hfr1 := bF BKr.out 1)); refine bodyPost_ret (results_ct rfl _ _ gr 30 #[.string (⟨#[]⟩ : ByteArray), .slice none 0 0] (0, 0) _ rfl (by refine blk_put (cs := #[.string (⟨#[]⟩ : ByteArray), .slice none 0 0]) ?_ 1 _ rfl; refine blk_put (cs := #[.string (⟨#[]⟩ : ByteArray), .slice none 0 0]) ?_ 0 _ rfl; exact BKr.out) Try.underlying30 rfl (by kernel_rfl)) rfl ?_; exact ⟨_, rfl, Kd.R_nil _ _ _ _ _, lS (lS HB.out GEr.out) GEr.out⟩
  ·rw [if_neg ca] at h; have cb : decide (a1 < 0) = false := decide_eq_false ca; clear ca; by_cases cl : a1 < (a0_0.size : Int)
   ·rw [if_pos cl] at h; have cd : decide ((a0_0.size : Int) ≤ a1) = false := decide_eq_false (by omega); (have cd2 : ¬ ((a0_0.size : Int) ≤ a1) := by omega); clear cl; obtain ⟨mw, hmw⟩ : ∃ mw, mw = wrap64 (64 - Int.tmod a1 64) := ⟨_, rfl⟩; (have q3 : IntKind.i64.wrap (64 - Int.tmod a1 64) = mw := by rw [i64_w]; exact hmw.symm); rw [← hmw] at h; clear hmw; obtain ⟨u, hu, h⟩ := Option.bind_eq_some_iff.mp h; have U := mK hu; clear hu; by_cases cu : u = true
    ·subst cu; rw [if_pos rfl] at h; obtain ⟨y, hy⟩ : ∃ y, y = wrap64 (Int.tdiv a1 64) := ⟨_, rfl⟩; obtain ⟨m, hm⟩ : ∃ m, m = Int.tmod a1 64 := ⟨_, rfl⟩; rw [← hy, ← hm] at h; have YY := mK hy; have MM := mK hm; clear hy hm; obtain ⟨⟨s2, l2⟩, ho, h⟩ := Option.bind_eq_some_iff.mp h; obtain ⟨⟨i, b⟩, hf, h⟩ := Option.bind_eq_some_iff.mp h; obtain ⟨L, hi, h⟩ := Option.bind_eq_some_iff.mp h; obtain ⟨L2, hfi, h⟩ := Option.bind_eq_some_iff.mp h; simp only [Option.some.injEq, Prod.mk.injEq] at h; obtain ⟨rfl, rfl, rfl⟩ := h; have O := mK ho; have F := mK hf; have I := mK hi; have FI := mK hfi; clear ho hf hi hfi; go_enter Try.func40, Try.ntmps40; go_wp2_with (first | ((with_reducible refine gate_dst (N := 3) rfl ?_); refine box_event ?hg (N := 3) ?hd (cs := #[.string a0_0, .slice A0_1 l0_1.length c0_1]) (t := 30) ?hr ?_; (case hd => rfl); (case hg => rfl); (case hr => first | (go_simp; done) | (go_simp; rfl)); intro gd hg w4 hbox hb; have n0_ := mK (lT HB.out hb); have n1_ := mK hbox; have n3_ := mK (by rw [hg]; exact (below_size HB.out) : w.heap.size ≤ gd); clear HB; have HB := n0_; have BK := n1_; have GE := n3_; clear n0_ n1_ n3_; clear hb hbox hg; have hcz0 : w4.cell? ⟨gd, 0, none⟩ = some (.string a0_0) := (bC BK.out 0).trans rfl; have hcz1 : w4.cell? ⟨gd, 1, none⟩ = some (.slice A0_1 l0_1.length c0_1) := (bC BK.out 1).trans rfl) | ((with_reducible refine gate_dst (N := 6) rfl ?_); refine box_event ?hg (N := 6) ?hd (cs := #[.string (⟨#[]⟩ : ByteArray), .slice none 0 0]) (t := 30) ?hr ?_; (case hd => rfl); (case hg => rfl); (case hr => first | (go_simp; done) | (go_simp; rfl)); intro gr hg w5 hbox hb; have n0_ := mK (lT HB.out hb); have n1_ := mK hbox; have n2_ := mK (bB BK.out hb); have n3_ := mK (by rw [hg]; exact (below_size HB.out) : w.heap.size ≤ gr); have n4_ := mK (by rw [hg]; exact Nat.ne_of_lt (blk_lt BK.out) : gd ≠ gr); clear HB BK hcz0 hcz1; have HB := n0_; have BKr := n1_; have BK := n2_; have GEr := n3_; have NEr := n4_; clear n0_ n1_ n2_ n3_ n4_; clear hb hbox hg; have hcz0 : w5.cell? ⟨gd, 0, none⟩ = some (.string a0_0) := (bC BK.out 0).trans rfl; have hcz1 : w5.cell? ⟨gd, 1, none⟩ = some (.slice A0_1 l0_1.length c0_1) := (bC BK.out 1).trans rfl; have hcr0 : w5.cell? ⟨gr, 0, none⟩ = some (.string (⟨#[]⟩ : ByteArray)) := (bC BKr.out 0).trans rfl; have hcr1 : w5.cell? ⟨gr, 1, none⟩ = some (.slice none 0 0) := (bC BKr.out 1).trans rfl; have hfr0 := bF BKr.out 0; have hfr1 := bF BKr.out 1) | (go_at_call 45; (with_reducible refine (impl_DeviceOk.calls k a0_0 _ _ l0_1 true _ ?side1 ?side2 T.out).mono ?_); (case side1 => exact cB HR.out HB.out); (case side2 => exact HC.out); rintro e w6 ⟨rfl, hb⟩; have n0_ := mK (lT HB.out hb); have n1_ := mK (bB BK.out hb); have n2_ := mK (bB BKr.out hb); clear HB BK BKr hcz0 hcz1 hcr0 hcr1 hfr0 hfr1; have HB := n0_; have BK := n1_; have BKr := n2_; clear n0_ n1_ n2_ hb; have hcz0 : w6.cell? ⟨gd, 0, none⟩ = some (.string a0_0) := (bC BK.out 0).trans rfl; have hcz1 : w6.cell? ⟨gd, 1, none⟩ = some (.slice A0_1 l0_1.length c0_1) := (bC BK.out 1).trans rfl; have hcr0 : w6.cell? ⟨gr, 0, none⟩ = some (.string (⟨#[]⟩ : ByteArray)) := (bC BKr.out 0).trans rfl; have hcr1 : w6.cell? ⟨gr, 1, none⟩ = some (.slice none 0 0) := (bC BKr.out 1).trans rfl; have hfr0 := bF BKr.out 0; have hfr1 := bF BKr.out 1) | (go_at_call 69; (with_reducible refine (impl_within.calls (a2.size : Int) 1 mw true _ U.out).mono ?_); rintro e w7 ⟨rfl, hb0⟩; have hb := impl_Store.drawn hb0; clear hb0; have n0_ := mK (lT HB.out hb); have n1_ := mK (bB BK.out hb); have n2_ := mK (bB BKr.out hb); clear HB BK BKr hcz0 hcz1 hcr0 hcr1 hfr0 hfr1; have HB := n0_; have BK := n1_; have BKr := n2_; clear n0_ n1_ n2_ hb; have hcz0 : w7.cell? ⟨gd, 0, none⟩ = some (.string a0_0) := (bC BK.out 0).trans rfl; have hcz1 : w7.cell? ⟨gd, 1, none⟩ = some (.slice A0_1 l0_1.length c0_1) := (bC BK.out 1).trans rfl; have hcr0 : w7.cell? ⟨gr, 0, none⟩ = some (.string (⟨#[]⟩ : ByteArray)) := (bC BKr.out 0).trans rfl; have hcr1 : w7.cell? ⟨gr, 1, none⟩ = some (.slice none 0 0) := (bC BKr.out 1).trans rfl; have hfr0 := bF BKr.out 0; have hfr1 := bF BKr.out 1) | (go_at_call 65; (with_reducible refine (impl_Device_own.calls a0_0 _ _ l0_1 s2 l2 _ ?side1 ?side2 O.out).mono ?_); (case side1 => exact cB HR.out HB.out); (case side2 => exact HC.out); rintro e w8 ⟨vo, rfl, ho, hb⟩; have n3_ := mK (Kd.R_lower ho (below_size HB.out)); have n0_ := mK (lT HB.out hb); have n1_ := mK (bB BK.out hb); have n2_ := mK (bB BKr.out hb); clear HB BK BKr hcz0 hcz1 hcr0 hcr1 hfr0 hfr1; have HB := n0_; have BK := n1_; have BKr := n2_; clear n0_ n1_ n2_ hb; have hcz0 : w8.cell? ⟨gd, 0, none⟩ = some (.string a0_0) := (bC BK.out 0).trans rfl; have hcz1 : w8.cell? ⟨gd, 1, none⟩ = some (.slice A0_1 l0_1.length c0_1) := (bC BK.out 1).trans rfl; have hcr0 : w8.cell? ⟨gr, 0, none⟩ = some (.string (⟨#[]⟩ : ByteArray)) := (bC BKr.out 0).trans rfl; have hcr1 : w8.cell? ⟨gr, 1, none⟩ = some (.slice none 0 0) := (bC BKr.out 1).trans rfl; have hfr0 := bF BKr.out 0; have hfr1 := bF BKr.out 1; have HO := n3_; clear n3_ ho; obtain ⟨Ao, co, eo⟩ := Kd.R_slice HO.out; subst eo) | ((with_reducible refine gate_dst (N := 8) rfl ?_); refine box_event ?hg (N := 8) ?hd (cs := #[.string (⟨#[]⟩ : ByteArray), .slice none 0 0]) (t := 30) ?hr ?_; (case hd => rfl); (case hg => rfl); (case hr => first | (go_simp; done) | (go_simp; rfl)); intro gO hg w9 hbox hb; have n3_ := mK (rB HO.out hb); have n4_ := mK hbox; have GEo := mK (by rw [hg]; exact (below_size HB.out) : w.heap.size ≤ gO); have NErO := (by rw [hg]; exact Nat.ne_of_lt (blk_lt BKr.out) : gr ≠ gO); have NEOr := NErO.symm; clear HO; have HO := n3_; have BKo := n4_; clear n3_ n4_ hbox hg; have n0_ := mK (lT HB.out hb); have n1_ := mK (bB BK.out hb); have n2_ := mK (bB BKr.out hb); clear HB BK BKr hcz0 hcz1 hcr0 hcr1 hfr0 hfr1; have HB := n0_; have BK := n1_; have BKr := n2_; clear n0_ n1_ n2_ hb; have hcz0 : w9.cell? ⟨gd, 0, none⟩ = some (.string a0_0) := (bC BK.out 0).trans rfl; have hcz1 : w9.cell? ⟨gd, 1, none⟩ = some (.slice A0_1 l0_1.length c0_1) := (bC BK.out 1).trans rfl; have hcr0 : w9.cell? ⟨gr, 0, none⟩ = some (.string (⟨#[]⟩ : ByteArray)) := (bC BKr.out 0).trans rfl; have hcr1 : w9.cell? ⟨gr, 1, none⟩ = some (.slice none 0 0) := (bC BKr.out 1).trans rfl; have hfr0 := bF BKr.out 0; have hfr1 := bF BKr.out 1; have hco0 : w9.cell? ⟨gO, 0, none⟩ = some (.string (⟨#[]⟩ : ByteArray)) := (bC BKo.out 0).trans rfl; have hco1 : w9.cell? ⟨gO, 1, none⟩ = some (.slice none 0 0) := (bC BKo.out 1).trans rfl; have hfo0 := bF BKo.out 0; have hfo1 := bF BKo.out 1) | (go_at_call 79; (refine (impl_Store.store w.heap.size gO (fun k => True ∧ k ≠ gO) s2 Ao co l2 a1 y m a2 i b L L2 w _ YY.out MM.out ?side1 ?side2 (fun k hk => hk.2) ?side5 ?side3 ?side4 ?side6 F.out I.out FI.out).mono ?_); (case side1 => exact blk_put (cs := #[.string s2, .slice none 0 0]) (blk_put BKo.out 0 _ rfl) 1 _ rfl); (case side2 => exact Kd.R_far (p := ⟨gO, 1, none⟩) (Kd.R_far (p := ⟨gO, 0, none⟩) (Kd.R_types HO.out BKo.out (by decide)) (fun _ hk => hk.2) _) (fun _ hk => hk.2) _); (case side5 => exact fun k hk => ⟨trivial, fun e => by have h1 := blk_lt BKo.out; have h2 : w9.heap.size ≤ k := (by simpa [World.setCell] using hk); omega⟩); (case side3 => exact lS (lS HB.out GEo.out) GEo.out); (case side4 => have := below_size HB.out; simpa [World.setCell] using this); (case side6 => exact GEo.out); rintro e w10 ⟨rfl, v10, hbo, hro, hb, hsz, hoth⟩; obtain ⟨A5, c5, e5⟩ := Kd.R_slice hro; subst e5; have n0_ := mK hb; have n1_ := mK hbo; have n2_ := mK ((hoth gr (by have := blk_lt BKr.out; simpa [World.setCell] using this) NErO (Kd.R_ne HO.out BKr.out (by decide))).trans (blk_far (blk_far BKr.out NErO _) NErO _)); have n3_ := mK hro; clear HB BK BKr BKo HO hcz0 hcz1 hcr0 hcr1 hfr0 hfr1 hco0 hco1 hfo0 hfo1; have HB := n0_; have BKo := n1_; have BKr := n2_; have HO := n3_; clear n0_ n1_ n2_ n3_ hb hbo hro hsz hoth; have hcr0 : w10.cell? ⟨gr, 0, none⟩ = some (.string (⟨#[]⟩ : ByteArray)) := (bC BKr.out 0).trans rfl; have hcr1 : w10.cell? ⟨gr, 1, none⟩ = some (.slice none 0 0) := (bC BKr.out 1).trans rfl; have hfr0 := bF BKr.out 0; have hfr1 := bF BKr.out 1; have hco0 : w10.cell? ⟨gO, 0, none⟩ = some (.string s2) := (bC BKo.out 0).trans rfl; have hco1 : w10.cell? ⟨gO, 1, none⟩ = some (.slice A5 L2.length c5) := (bC BKo.out 1).trans rfl)); refine bodyPost_ret (results_ct rfl _ _ gr 30 #[.string s2, .slice A5 L2.length c5] (0, 0) _ rfl (by refine blk_put (cs := #[.string s2, .slice none 0 0]) ?_ 1 _ rfl; refine blk_put (cs := #[.string (⟨#[]⟩ : ByteArray), .slice none 0 0]) ?_ 0 _ rfl; exact BKr.out) Try.underlying30 rfl (by kernel_rfl)) rfl ?_; exact ⟨_, rfl, Kd.R_mono (Kd.R_far (p := ⟨gr, 1, none⟩) (Kd.R_far (p := ⟨gr, 0, none⟩) (Kd.R_types HO.out BKr.out (by decide)) (fun _ hk => hk.2) _) (fun _ hk => hk.2) _) (fun _ _ => trivial), lS (lS HB.out GEr.out) GEr.out⟩
    ·replace cu := Bool.eq_false_iff.mpr cu; subst cu; rw [if_neg (by decide)] at h; simp only [Option.some.injEq, Prod.mk.injEq] at h; obtain ⟨rfl, rfl, rfl⟩ := h; go_enter Try.func40, Try.ntmps40; go_wp2_with (first | ((with_reducible refine gate_dst (N := 3) rfl ?_); refine box_event ?hg (N := 3) ?hd (cs := #[.string a0_0, .slice A0_1 l0_1.length c0_1]) (t := 30) ?hr ?_; (case hd => rfl); (case hg => rfl); (case hr => first | (go_simp; done) | (go_simp; rfl)); intro gd hg w4 hbox hb; have n0_ := mK (lT HB.out hb); have n1_ := mK hbox; have n3_ := mK (by rw [hg]; exact (below_size HB.out) : w.heap.size ≤ gd); clear HB; have HB := n0_; have BK := n1_; have GE := n3_; clear n0_ n1_ n3_; clear hb hbox hg; have hcz0 : w4.cell? ⟨gd, 0, none⟩ = some (.string a0_0) := (bC BK.out 0).trans rfl; have hcz1 : w4.cell? ⟨gd, 1, none⟩ = some (.slice A0_1 l0_1.length c0_1) := (bC BK.out 1).trans rfl) | ((with_reducible refine gate_dst (N := 6) rfl ?_); refine box_event ?hg (N := 6) ?hd (cs := #[.string (⟨#[]⟩ : ByteArray), .slice none 0 0]) (t := 30) ?hr ?_; (case hd => rfl); (case hg => rfl); (case hr => first | (go_simp; done) | (go_simp; rfl)); intro gr hg w5 hbox hb; have n0_ := mK (lT HB.out hb); have n1_ := mK hbox; have n2_ := mK (bB BK.out hb); have n3_ := mK (by rw [hg]; exact (below_size HB.out) : w.heap.size ≤ gr); have n4_ := mK (by rw [hg]; exact Nat.ne_of_lt (blk_lt BK.out) : gd ≠ gr); clear HB BK hcz0 hcz1; have HB := n0_; have BKr := n1_; have BK := n2_; have GEr := n3_; have NEr := n4_; clear n0_ n1_ n2_ n3_ n4_; clear hb hbox hg; have hcz0 : w5.cell? ⟨gd, 0, none⟩ = some (.string a0_0) := (bC BK.out 0).trans rfl; have hcz1 : w5.cell? ⟨gd, 1, none⟩ = some (.slice A0_1 l0_1.length c0_1) := (bC BK.out 1).trans rfl; have hcr0 : w5.cell? ⟨gr, 0, none⟩ = some (.string (⟨#[]⟩ : ByteArray)) := (bC BKr.out 0).trans rfl; have hcr1 : w5.cell? ⟨gr, 1, none⟩ = some (.slice none 0 0) := (bC BKr.out 1).trans rfl; have hfr0 := bF BKr.out 0; have hfr1 := bF BKr.out 1) | (go_at_call 45; (with_reducible refine (impl_DeviceOk.calls k a0_0 _ _ l0_1 true _ ?side1 ?side2 T.out).mono ?_); (case side1 => exact cB HR.out HB.out); (case side2 => exact HC.out); rintro e w6 ⟨rfl, hb⟩; have n0_ := mK (lT HB.out hb); have n1_ := mK (bB BK.out hb); have n2_ := mK (bB BKr.out hb); clear HB BK BKr hcz0 hcz1 hcr0 hcr1 hfr0 hfr1; have HB := n0_; have BK := n1_; have BKr := n2_; clear n0_ n1_ n2_ hb; have hcz0 : w6.cell? ⟨gd, 0, none⟩ = some (.string a0_0) := (bC BK.out 0).trans rfl; have hcz1 : w6.cell? ⟨gd, 1, none⟩ = some (.slice A0_1 l0_1.length c0_1) := (bC BK.out 1).trans rfl; have hcr0 : w6.cell? ⟨gr, 0, none⟩ = some (.string (⟨#[]⟩ : ByteArray)) := (bC BKr.out 0).trans rfl; have hcr1 : w6.cell? ⟨gr, 1, none⟩ = some (.slice none 0 0) := (bC BKr.out 1).trans rfl; have hfr0 := bF BKr.out 0; have hfr1 := bF BKr.out 1) | (go_at_call 69; (with_reducible refine (impl_within.calls (a2.size : Int) 1 mw false _ U.out).mono ?_); rintro e w7 ⟨rfl, hb0⟩; have hb := impl_Store.drawn hb0; clear hb0; have n0_ := mK (lT HB.out hb); have n1_ := mK (bB BK.out hb); have n2_ := mK (bB BKr.out hb); clear HB BK BKr hcz0 hcz1 hcr0 hcr1 hfr0 hfr1; have HB := n0_; have BK := n1_; have BKr := n2_; clear n0_ n1_ n2_ hb; have hcz0 : w7.cell? ⟨gd, 0, none⟩ = some (.string a0_0) := (bC BK.out 0).trans rfl; have hcz1 : w7.cell? ⟨gd, 1, none⟩ = some (.slice A0_1 l0_1.length c0_1) := (bC BK.out 1).trans rfl; have hcr0 : w7.cell? ⟨gr, 0, none⟩ = some (.string (⟨#[]⟩ : ByteArray)) := (bC BKr.out 0).trans rfl; have hcr1 : w7.cell? ⟨gr, 1, none⟩ = some (.slice none 0 0) := (bC BKr.out 1).trans rfl; have hfr0 := bF BKr.out 0; have hfr1 := bF BKr.out 1)); refine bodyPost_ret (results_ct rfl _ _ gr 30 #[.string (⟨#[]⟩ : ByteArray), .slice none 0 0] (0, 0) _ rfl (by refine blk_put (cs := #[.string (⟨#[]⟩ : ByteArray), .slice none 0 0]) ?_ 1 _ rfl; refine blk_put (cs := #[.string (⟨#[]⟩ : ByteArray), .slice none 0 0]) ?_ 0 _ rfl; exact BKr.out) Try.underlying30 rfl (by kernel_rfl)) rfl ?_; exact ⟨_, rfl, Kd.R_nil _ _ _ _ _, lS (lS HB.out GEr.out) GEr.out⟩
   ·rw [if_neg cl] at h; simp only [Option.some.injEq, Prod.mk.injEq] at h; obtain ⟨rfl, rfl, rfl⟩ := h; have cd : decide ((a0_0.size : Int) ≤ a1) = true := decide_eq_true (by omega); clear cl; go_enter Try.func40, Try.ntmps40; go_wp2_with (first | ((with_reducible refine gate_dst (N := 3) rfl ?_); refine box_event ?hg (N := 3) ?hd (cs := #[.string a0_0, .slice A0_1 l0_1.length c0_1]) (t := 30) ?hr ?_; (case hd => rfl); (case hg => rfl); (case hr => first | (go_simp; done) | (go_simp; rfl)); intro gd hg w4 hbox hb; have n0_ := mK (lT HB.out hb); have n1_ := mK hbox; have n3_ := mK (by rw [hg]; exact (below_size HB.out) : w.heap.size ≤ gd); clear HB; have HB := n0_; have BK := n1_; have GE := n3_; clear n0_ n1_ n3_; clear hb hbox hg; have hcz0 : w4.cell? ⟨gd, 0, none⟩ = some (.string a0_0) := (bC BK.out 0).trans rfl; have hcz1 : w4.cell? ⟨gd, 1, none⟩ = some (.slice A0_1 l0_1.length c0_1) := (bC BK.out 1).trans rfl) | ((with_reducible refine gate_dst (N := 6) rfl ?_); refine box_event ?hg (N := 6) ?hd (cs := #[.string (⟨#[]⟩ : ByteArray), .slice none 0 0]) (t := 30) ?hr ?_; (case hd => rfl); (case hg => rfl); (case hr => first | (go_simp; done) | (go_simp; rfl)); intro gr hg w5 hbox hb; have n0_ := mK (lT HB.out hb); have n1_ := mK hbox; have n2_ := mK (bB BK.out hb); have n3_ := mK (by rw [hg]; exact (below_size HB.out) : w.heap.size ≤ gr); have n4_ := mK (by rw [hg]; exact Nat.ne_of_lt (blk_lt BK.out) : gd ≠ gr); clear HB BK hcz0 hcz1; have HB := n0_; have BKr := n1_; have BK := n2_; have GEr := n3_; have NEr := n4_; clear n0_ n1_ n2_ n3_ n4_; clear hb hbox hg; have hcz0 : w5.cell? ⟨gd, 0, none⟩ = some (.string a0_0) := (bC BK.out 0).trans rfl; have hcz1 : w5.cell? ⟨gd, 1, none⟩ = some (.slice A0_1 l0_1.length c0_1) := (bC BK.out 1).trans rfl; have hcr0 : w5.cell? ⟨gr, 0, none⟩ = some (.string (⟨#[]⟩ : ByteArray)) := (bC BKr.out 0).trans rfl; have hcr1 : w5.cell? ⟨gr, 1, none⟩ = some (.slice none 0 0) := (bC BKr.out 1).trans rfl; have hfr0 := bF BKr.out 0; have hfr1 := bF BKr.out 1) | (go_at_call 45; (with_reducible refine (impl_DeviceOk.calls k a0_0 _ _ l0_1 true _ ?side1 ?side2 T.out).mono ?_); (case side1 => exact cB HR.out HB.out); (case side2 => exact HC.out); rintro e w6 ⟨rfl, hb⟩; have n0_ := mK (lT HB.out hb); have n1_ := mK (bB BK.out hb); have n2_ := mK (bB BKr.out hb); clear HB BK BKr hcz0 hcz1 hcr0 hcr1 hfr0 hfr1; have HB := n0_; have BK := n1_; have BKr := n2_; clear n0_ n1_ n2_ hb; have hcz0 : w6.cell? ⟨gd, 0, none⟩ = some (.string a0_0) := (bC BK.out 0).trans rfl; have hcz1 : w6.cell? ⟨gd, 1, none⟩ = some (.slice A0_1 l0_1.length c0_1) := (bC BK.out 1).trans rfl; have hcr0 : w6.cell? ⟨gr, 0, none⟩ = some (.string (⟨#[]⟩ : ByteArray)) := (bC BKr.out 0).trans rfl; have hcr1 : w6.cell? ⟨gr, 1, none⟩ = some (.slice none 0 0) := (bC BKr.out 1).trans rfl; have hfr0 := bF BKr.out 0; have hfr1 := bF BKr.out 1)); refine bodyPost_ret (results_ct rfl _ _ gr 30 #[.string (⟨#[]⟩ : ByteArray), .slice none 0 0] (0, 0) _ rfl (by refine blk_put (cs := #[.string (⟨#[]⟩ : ByteArray), .slice none 0 0]) ?_ 1 _ rfl; refine blk_put (cs := #[.string (⟨#[]⟩ : ByteArray), .slice none 0 0]) ?_ 0 _ rfl; exact BKr.out) Try.underlying30 rfl (by kernel_rfl)) rfl ?_; exact ⟨_, rfl, Kd.R_nil _ _ _ _ _, lS (lS HB.out GEr.out) GEr.out⟩
 ·replace ct := Bool.eq_false_iff.mpr ct; subst ct; rw [if_neg (by decide)] at h; simp only [Option.some.injEq, Prod.mk.injEq] at h; obtain ⟨rfl, rfl, rfl⟩ := h; go_enter Try.func40, Try.ntmps40; go_wp2_with (first | ((with_reducible refine gate_dst (N := 3) rfl ?_); refine box_event ?hg (N := 3) ?hd (cs := #[.string a0_0, .slice A0_1 l0_1.length c0_1]) (t := 30) ?hr ?_; (case hd => rfl); (case hg => rfl); (case hr => first | (go_simp; done) | (go_simp; rfl)); intro gd hg w4 hbox hb; have n0_ := mK (lT HB.out hb); have n1_ := mK hbox; have n3_ := mK (by rw [hg]; exact (below_size HB.out) : w.heap.size ≤ gd); clear HB; have HB := n0_; have BK := n1_; have GE := n3_; clear n0_ n1_ n3_; clear hb hbox hg; have hcz0 : w4.cell? ⟨gd, 0, none⟩ = some (.string a0_0) := (bC BK.out 0).trans rfl; have hcz1 : w4.cell? ⟨gd, 1, none⟩ = some (.slice A0_1 l0_1.length c0_1) := (bC BK.out 1).trans rfl) | ((with_reducible refine gate_dst (N := 6) rfl ?_); refine box_event ?hg (N := 6) ?hd (cs := #[.string (⟨#[]⟩ : ByteArray), .slice none 0 0]) (t := 30) ?hr ?_; (case hd => rfl); (case hg => rfl); (case hr => first | (go_simp; done) | (go_simp; rfl)); intro gr hg w5 hbox hb; have n0_ := mK (lT HB.out hb); have n1_ := mK hbox; have n2_ := mK (bB BK.out hb); have n3_ := mK (by rw [hg]; exact (below_size HB.out) : w.heap.size ≤ gr); have n4_ := mK (by rw [hg]; exact Nat.ne_of_lt (blk_lt BK.out) : gd ≠ gr); clear HB BK hcz0 hcz1; have HB := n0_; have BKr := n1_; have BK := n2_; have GEr := n3_; have NEr := n4_; clear n0_ n1_ n2_ n3_ n4_; clear hb hbox hg; have hcz0 : w5.cell? ⟨gd, 0, none⟩ = some (.string a0_0) := (bC BK.out 0).trans rfl; have hcz1 : w5.cell? ⟨gd, 1, none⟩ = some (.slice A0_1 l0_1.length c0_1) := (bC BK.out 1).trans rfl; have hcr0 : w5.cell? ⟨gr, 0, none⟩ = some (.string (⟨#[]⟩ : ByteArray)) := (bC BKr.out 0).trans rfl; have hcr1 : w5.cell? ⟨gr, 1, none⟩ = some (.slice none 0 0) := (bC BKr.out 1).trans rfl; have hfr0 := bF BKr.out 0; have hfr1 := bF BKr.out 1) | (go_at_call 45; (with_reducible refine (impl_DeviceOk.calls k a0_0 _ _ l0_1 false _ ?side1 ?side2 T.out).mono ?_); (case side1 => exact cB HR.out HB.out); (case side2 => exact HC.out); rintro e w6 ⟨rfl, hb⟩; have n0_ := mK (lT HB.out hb); have n1_ := mK (bB BK.out hb); have n2_ := mK (bB BKr.out hb); clear HB BK BKr hcz0 hcz1 hcr0 hcr1 hfr0 hfr1; have HB := n0_; have BK := n1_; have BKr := n2_; clear n0_ n1_ n2_ hb; have hcz0 : w6.cell? ⟨gd, 0, none⟩ = some (.string a0_0) := (bC BK.out 0).trans rfl; have hcz1 : w6.cell? ⟨gd, 1, none⟩ = some (.slice A0_1 l0_1.length c0_1) := (bC BK.out 1).trans rfl; have hcr0 : w6.cell? ⟨gr, 0, none⟩ = some (.string (⟨#[]⟩ : ByteArray)) := (bC BKr.out 0).trans rfl; have hcr1 : w6.cell? ⟨gr, 1, none⟩ = some (.slice none 0 0) := (bC BKr.out 1).trans rfl; have hfr0 := bF BKr.out 0; have hfr1 := bF BKr.out 1)); refine bodyPost_ret (results_ct rfl _ _ gr 30 #[.string (⟨#[]⟩ : ByteArray), .slice none 0 0] (0, 0) _ rfl (by refine blk_put (cs := #[.string (⟨#[]⟩ : ByteArray), .slice none 0 0]) ?_ 1 _ rfl; refine blk_put (cs := #[.string (⟨#[]⟩ : ByteArray), .slice none 0 0]) ?_ 0 _ rfl; exact BKr.out) Try.underlying30 rfl (by kernel_rfl)) rfl ?_; exact ⟨_, rfl, Kd.R_nil _ _ _ _ _, lS (lS HB.out GEr.out) GEr.out⟩
def laws_big.f (l0 : List Int) : Option (Bool) := some (decide ((l0.length : Int) > 1048576))
theorem laws_big.calls (A0 : Option Addr) (c0 : Nat) (l0 : List Int) (r : Bool) (w : World) (hr0 : Kd.C (Kd.int .u8) w A0 l0.length l0) (hc0 : l0.length ≤ c0) (h : laws_big.f l0 = some r) :
    Calls Try.prog 41 #[.slice A0 l0.length c0] w fun e w' => e = .returned (.bool r) ∧ Drawn0 w w' := by
 have HR0 := mK hr0; have HC0 := mK hc0; clear hr0 hc0; have H : (some (decide ((l0.length : Int) > 1048576))) = some r := h; clear h; obtain rfl := Option.some.inj H; go_enter Try.func41, Try.ntmps41; go_wp2; go_ret; exact ⟨by first | rfl | (simp; done) | (simp [*]; done), by repeat (first | exact Drawn0.refl _ | apply Drawn0.step)⟩
end Go.Proofs.Ytbbbajnnoficbaa.PFnStored
