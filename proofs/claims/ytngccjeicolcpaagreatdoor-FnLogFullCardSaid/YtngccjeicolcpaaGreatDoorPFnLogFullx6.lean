-- by a patched copy of the print (wip/tools/patch_print.py)
import Derived.Test.YtngccjeicolcpaaGreatDoorPFnLogFullx0
import Derived.Test.YtngccjeicolcpaaGreatDoorPFnLogFullx1
import Derived.Test.YtngccjeicolcpaaGreatDoorPFnLogFullx3
import Derived.Test.YtngccjeicolcpaaGreatDoorPFnLogFullx4
import Derived.Test.YtngccjeicolcpaaGreatDoorPFnLogFullx5
namespace Go.Proofs.YtngccjeicolcpaaGreatDoor.PFnLogFull
open Go.RowKit Go.Proofs.YtngccjeicolcpaaGreatDoorW.PrintWords Go.Proofs.YtngccjeicolcpaaGreatDoorW.PrintLast Go.Proofs.YtngccjeicolcpaaGreatDoorW.PrintMore
attribute [local go_sem] max2_int min2_int max_two min_two max_three min_three max_four min_four
open Go.Proofs.YtngccjeicolcpaaGreatDoorW.PrintWords renaming blk_drewN → bN, blk_drew → bD, blk_alloc → bA, pw_below_drewN → lN, below_drew1 → lD, below_set → lS, below_step → lT, blk_below → bB, blk_cell → bC, blk_frozen → bF
open Go.Proofs.YtngccjeicolcpaaGreatDoorW.PrintWords.Aside0 renaming mk → mK
open Go.Proofs.YtngccjeicolcpaaGreatDoorW.PrintWords.Kd renaming R_drew → rD, R_below → rB, R_lower → rL, R_reads' → rR, R_mono → rM, C_below → cB
set_option linter.unusedVariables false
set_option maxHeartbeats 8000000
set_option maxRecDepth 1000000
set_option linter.unusedSimpArgs false
theorem slices_Insert.copy {P : Program} (w : World) (dT sT ty elem : TypeId) (g o dLen dCap : Nat) (a : Addr) (sLen sCap : Nat) (cur : Array Value) (t : TypeId) (cs : List Value)
    (hu : P.underlying dT = some (.slice elem)) (hs : (P.info? elem).map (·.size) = some 3)
    (hg : w.heap[g]? = some (.cells cur t (0, 0))) (hn : cs.length = Nat.min sLen dLen * 3)
    (hsrc : ∀ j v, cs[j]? = some v → w.cell? (a.add j) = some v) (hfit : o + cs.length ≤ cur.size) (h1 : ∀ v ∈ cs, v.oneCell' = true) :
    (Builtin.copy_ #[dT, sT] ty #[.slice (some ⟨g, o, none⟩) dLen dCap, .slice (some a) sLen sCap]).run P w =
      .ok (goInt (Nat.min sLen dLen)) (w.setRow g (cur.toList.take o ++ cs ++ cur.toList.drop (o + cs.length)).toArray) := by
  have hl := run_loadCells_list (P := P) w a cs hsrc
  have hst := run_storeCells_at P g o t cs 0 cur w hg (by simpa using hfit) h1
  cases hq : P.info? elem with
  | none => simp [hq] at hs
  | some i =>
    have hi : i.size = 3 := by simpa [hq] using hs
    simp [Builtin.copy_, run_underlying hu, Builtin.lenOf, Builtin.firstCells, sizeOf, typeInfo, hq, hi, ← hn, hl, hst]
def slices_Insert.cs (x : S106) : List Value := [.int .i64 x.f0, .string x.f1, .string x.f2]
theorem slices_Insert.cslen : ∀ l : List S106, (l.flatMap slices_Insert.cs).length = l.length * 3
  | [] => rfl
  | x :: l => by rw [List.flatMap_cons, List.length_append, slices_Insert.cslen l]; simp [slices_Insert.cs]; omega
theorem slices_Insert.one : ∀ (l : List S106) (v : Value), v ∈ l.flatMap slices_Insert.cs → v.oneCell' = true := by
  intro l v hv
  obtain ⟨x, _, hx⟩ := List.mem_flatMap.1 hv
  simp [slices_Insert.cs] at hx
  rcases hx with rfl | rfl | rfl <;> rfl
theorem slices_Insert.seg : ∀ (l : List S106) (i : Nat) (h : i < l.length), ((l.flatMap slices_Insert.cs).drop (i * 3)).take 3 = slices_Insert.cs l[i]
  | [], i, h => absurd h (Nat.not_lt_zero i)
  | x :: l, 0, h => by simp [slices_Insert.cs]
  | x :: l, i + 1, h => by
    rw [List.flatMap_cons, List.drop_append]
    simp only [List.length_cons] at h
    have e : (slices_Insert.cs x).length = 3 := rfl
    rw [List.drop_of_length_le (by rw [e]; omega), e, show (i + 1) * 3 - 3 = i * 3 by omega, List.nil_append, slices_Insert.seg l i (by omega)]
    rfl
theorem slices_Insert.cells {base g cap n : Nat} {ok : Nat → Prop} {xs : List S106} {W : World} (h : Kd.R k106 106 W base ok (.slice (some ⟨g, 0, none⟩) n cap) xs) :
    ∃ cur, W.heap[g]? = some (.cells cur 106 (0, 0)) ∧ base ≤ g ∧ ok g ∧ n = xs.length ∧ xs.length ≤ cap ∧ cap ≤ maxLen ∧ cur.size = cap * 3 ∧ cur.toList.take (xs.length * 3) = xs.flatMap slices_Insert.cs := by
  obtain ⟨hn, hnc, _⟩ := rR h
  have hE := fun (i : Nat) (hi : i < xs.length) => Kd.R_elem h z106 (i : Int) (by omega) (by omega)
  obtain ⟨hok, inner, ho, hr⟩ := h
  rcases ho.2 with ⟨hv, _⟩ | ⟨g', cap', cur, hv, hb, hh, hnc', hcm, hcs, ht⟩
  · cases hv
  injection hv with ha _ hc
  injection ha with ha
  injection ha with hg
  subst hg; subst hc
  refine ⟨cur, hh, hb, hok g (by simp [Value.ownBlock]), hn, by omega, hcm, hcs, ?_⟩
  apply List.ext_getElem?
  intro j
  by_cases hj : j < xs.length * 3
  · have hi : j / 3 < xs.length := by omega
    obtain ⟨c, hcl, hM, hcc, _⟩ := hE (j / 3) hi
    obtain rfl := k106_openM hM
    have e : xs.getD (((j / 3 : Nat) : Int)).toNat z106 = xs[j / 3] := by rw [Int.toNat_natCast, List.getD_eq_getElem?_getD, List.getElem?_eq_getElem hi]; rfl
    rw [e] at hcc
    have hs := slices_Insert.seg xs (j / 3) hi
    have hu : (xs.flatMap slices_Insert.cs)[j]? = (slices_Insert.cs xs[j / 3])[j % 3]? := by
      rw [← hs, List.getElem?_take, if_pos (by omega), List.getElem?_drop]
      congr 1; omega
    have h3 : j % 3 < (slices_Insert.cs xs[j / 3]).length := by show j % 3 < 3; omega
    have := hcc (j % 3) _ (List.getElem?_eq_getElem h3)
    rw [hu, List.getElem?_eq_getElem h3, List.getElem?_take, if_pos hj, ← this]
    rw [bC hh]
    rw [show (((j / 3 : Nat) : Int)).toNat * k106.sz + j % 3 = j from by
      rw [Int.toNat_natCast]; show j / 3 * 3 + j % 3 = j; omega]
    simp
  · rw [List.getElem?_take, if_neg hj, List.getElem?_eq_none (by rw [slices_Insert.cslen]; omega)]
theorem slices_Insert.row {base g cap : Nat} {ok : Nat → Prop} {xs : List S106} {W : World} {cur : Array Value} (hh : W.heap[g]? = some (.cells cur 106 (0, 0))) (hb : base ≤ g) (hok : ok g) (hn : xs.length ≤ cap) (hc : cap ≤ maxLen) (hs : cur.size = cap * 3) (ht : cur.toList.take (xs.length * 3) = xs.flatMap slices_Insert.cs) :
    Kd.R k106 106 W base ok (.slice (some ⟨g, 0, none⟩) xs.length cap) xs := by
  refine ⟨fun k hk => ?_, xs.flatMap slices_Insert.cs, ⟨slices_Insert.cslen xs, .inr ⟨g, cap, cur, rfl, hb, hh, hn, hc, hs, ht⟩⟩, slices_Insert.cslen xs, fun i p hp => ?_⟩
  · have : g = k := by simpa [Value.ownBlock] using hk
    exact this ▸ hok
  · obtain ⟨hi, rfl⟩ := List.getElem?_eq_some_iff.1 hp
    rw [show k106.sz = 3 from rfl, slices_Insert.seg xs i hi]
    exact k106_mkM _ _ _ xs[i]
theorem slices_Insert.atEnd (base : Nat) (ok : Nat → Prop) (A : Option Addr) (cap : Nat) (l : List S106) (x : S106) (w0 W : World) (hR : Kd.R k106 106 W base ok (.slice A l.length cap) l) (hok : ∀ k, W.heap.size ≤ k → ok k) (hB : Below base w0 W) (hbase : base ≤ W.heap.size) (hl : (l.length + 1) * 40 ≤ 140737488355328) :
    Calls Tryz.prog 159 #[.slice A l.length cap, .int .i64 (l.length : Int), .slice (some ⟨W.heap.size, 0, none⟩) 1 1] (W.alloc (.cells (slices_Insert.cs x).toArray 106)) fun e w' => ∃ v', e = .returned v' ∧ Kd.R k106 106 w' base ok v' (l ++ [x]) ∧ W.grownBy w' (Value.slice A l.length cap).ownBlock ∧ (v'.ownBlock = (Value.slice A l.length cap).ownBlock ∨ ∃ b, v'.ownBlock = some b ∧ W.heap.size ≤ b) := by
  have hu28 := Tryz.underlying30
  obtain ⟨hn, hnc, _⟩ := rR hR
  rcases Nat.eq_or_lt_of_le hnc with hcc | hcc
  · subst hcc
    have HR := mK hR
    have HB := mK hB
    have HO := mK hok
    clear hR hB hok hn
    have q1 : (0 : Int) ≤ (l.length : Int) := by omega
    go_enter Tryz.func159, Tryz.ntmps159
    go_wp2_with (first | ((with_reducible refine gate_builtin (b := .append) (xs := #[.tmp 23, .tmp 24]) rfl ?_); at_builtin; refine Kd.R_append k106 (w0 := w0) base rfl (.tmp 23) (.tmp 24) 30 106 (.agg #[(.int .i64 0), (.string ⟨#[]⟩), (.string ⟨#[]⟩)]) 40 rfl Tryz.underlying30 info106 rfl (by decide) (by omega) (.slice A l.length l.length) l x (slices_Insert.cs x) ok (fun _ => False) rfl rfl ?aP (fun _ hk => hk.elim) HO.out HR.out HB.out hbase hl ?_; (case aP => exact k106_mkM _ _ _ x); intro v1 w1 ho hb hg hat; have n0_ := mK ho; have n1_ := mK hg; have n2_ := mK hat; clear ho hb hg hat))
    go_ret
    exact ⟨_, rfl, n0_.out, n1_.out, n2_.out⟩
  · have hne : ¬ cap = l.length := by omega
    clear hcc
    have HR := mK hR
    have HB := mK hB
    have HO := mK hok
    clear hR hB hok hn
    have q1 : (0 : Int) ≤ (l.length : Int) := by omega
    have q2 : (l.length : Int) ≤ (cap : Int) := by omega
    go_enter Tryz.func159, Tryz.ntmps159
    go_wp2_with (first | ((with_reducible refine gate_builtin (b := .append) (xs := #[.tmp 23, .tmp 24]) rfl ?_); at_builtin; refine Kd.R_append k106 (w0 := w0) base rfl (.tmp 23) (.tmp 24) 30 106 (.agg #[(.int .i64 0), (.string ⟨#[]⟩), (.string ⟨#[]⟩)]) 40 rfl Tryz.underlying30 info106 rfl (by decide) (by omega) (.slice A l.length cap) l x (slices_Insert.cs x) ok (fun _ => False) rfl rfl ?aP (fun _ hk => hk.elim) HO.out HR.out HB.out hbase hl ?_; (case aP => exact k106_mkM _ _ _ x); intro v1 w1 ho hb hg hat; have n0_ := mK ho; have n1_ := mK hg; have n2_ := mK hat; clear ho hb hg hat))
    go_ret
    exact ⟨_, rfl, n0_.out, n1_.out, n2_.out⟩
theorem slices_Insert.stepC {P : Program} {ops : Array Oper} {o : Oper} {a : Act} {w : World} {K : Act → World → Prop} {Q : Exit → Act → World → Prop} {E : Prop}
    (hg : o.guard = none) (d x : Operand) (dT sT : TypeId) (hop : o.op = Op.call { callee := Callee.builtin Builtin.copy, args := #[d, x], argTypes := #[dT, sT] })
    (v u : Value) (hd : a.eval d = v) (hx : a.eval x = u) {v' : Value} {w' : World} (hrun : (Builtin.copy_ #[dT, sT] o.type #[v, u]).run P w = .ok v' w') (hK : K (a.put o.dst v') w') :
    if Region.wanted o (yielded ops a.tmps) = true then Oper.wp P o a w K Q else E := by
  have hw : Region.wanted o (yielded ops a.tmps) = true := by simp [Region.wanted, hg]
  rw [if_pos hw]
  unfold Oper.wp
  simp [execOp, hop, resolve, invoke, builtin, hd, hx, hrun, Result.andThen]
  exact hK
theorem slices_Insert.cellX {cs : List Value} (W : World) (j : Nat) (v : Value) (h : cs[j]? = some v) : (W.alloc (.cells cs.toArray 106)).cell? ⟨W.heap.size, j, none⟩ = some v := by
  rw [World.cell?_alloc_at (w := W) cs.toArray _ W.heap.size j rfl]
  simpa using h
theorem slices_Insert.grows (base g : Nat) (ok : Nat → Prop) (i : Nat) (l : List S106) (x : S106) (W : World) (hR : Kd.R k106 106 W base ok (.slice (some ⟨g, 0, none⟩) l.length l.length) l) (hi : i < l.length) (hok : ∀ k, W.heap.size ≤ k → ok k) (hbase : base ≤ W.heap.size) (hl : (l.length + 1) * 40 ≤ 140737488355328) :
    Calls Tryz.prog 159 #[.slice (some ⟨g, 0, none⟩) l.length l.length, .int .i64 (i : Int), .slice (some ⟨W.heap.size, 0, none⟩) 1 1] (W.alloc (.cells (slices_Insert.cs x).toArray 106)) fun e w' => ∃ v', e = .returned v' ∧ Kd.R k106 106 w' base ok v' (l.take i ++ x :: l.drop i) ∧ W.grownBy w' (Value.slice (some ⟨g, 0, none⟩) l.length l.length).ownBlock ∧ (v'.ownBlock = (Value.slice (some ⟨g, 0, none⟩) l.length l.length).ownBlock ∨ ∃ b, v'.ownBlock = some b ∧ W.heap.size ≤ b) := by
  have hu28 := Tryz.underlying30
  have hu2 := Tryz.underlying3
  obtain ⟨cur, hh, hb, hokg, -, -, hcm, hcs, ht⟩ := slices_Insert.cells hR
  have hgW : g < W.heap.size := (Array.getElem?_eq_some_iff.1 hh).1
  obtain ⟨i0, hi0, hz0, hzs, hzb⟩ := info_parts info106
  obtain ⟨W0, hW0⟩ : ∃ W0, W0 = W.alloc (.cells (slices_Insert.cs x).toArray 106) := ⟨_, rfl⟩
  have hs0 : W0.heap.size = W.heap.size + 1 := by rw [hW0]; unfold World.alloc; exact Array.size_push _
  have hh0 : W0.heap[g]? = some (.cells cur 106 (0, 0)) := by rw [hW0]; exact (Below.heap_alloc W _ g hgW).trans hh
  have hx0 : ∀ j v, (slices_Insert.cs x)[j]? = some v → W0.cell? ⟨W.heap.size, j, none⟩ = some v := fun j v h => by rw [hW0]; exact slices_Insert.cellX W j v h
  obtain ⟨n, hn⟩ : ∃ n, n = l.length := ⟨_, rfl⟩
  have ht' : cur.toList.take (i * 3) = (l.take i).flatMap slices_Insert.cs := by
    have e : cur.toList.take (i * 3) = (cur.toList.take (l.length * 3)).take (i * 3) := by rw [List.take_take, Nat.min_eq_left (by omega)]
    have e2 : l.flatMap slices_Insert.cs = (l.take i).flatMap slices_Insert.cs ++ (l.drop i).flatMap slices_Insert.cs := by rw [← List.flatMap_append, List.take_append_drop]
    rw [e, ht, e2, List.take_left' (by rw [slices_Insert.cslen, List.length_take]; omega)]
  have hd' : ∀ j v, ((l.drop i).flatMap slices_Insert.cs)[j]? = some v → W0.cell? ⟨g, i * 3 + j, none⟩ = some v := fun j v hj => by
    have e2 : l.flatMap slices_Insert.cs = (l.take i).flatMap slices_Insert.cs ++ (l.drop i).flatMap slices_Insert.cs := by rw [← List.flatMap_append, List.take_append_drop]
    have hj2 : (l.flatMap slices_Insert.cs)[i * 3 + j]? = some v := by
      rw [e2, List.getElem?_append_right (by rw [slices_Insert.cslen, List.length_take]; omega), slices_Insert.cslen, List.length_take, Nat.min_eq_left (by omega), show i * 3 + j - i * 3 = j by omega]; exact hj
    rw [← ht, List.getElem?_take] at hj2
    split at hj2
    · rw [bC hh0]; simpa using hj2
    · cases hj2
  rw [← hW0]
  have hold : (Builtin.firstCells i0.size i (.slice (some ⟨g, 0, none⟩) i n)).run Tryz.prog W0.drew = .ok ((l.take i).flatMap slices_Insert.cs).toArray W0.drew := by
    rw [hzs]
    exact run_firstCells_some W0.drew 3 i ⟨g, 0, none⟩ i n ((l.take i).flatMap slices_Insert.cs) (by rw [slices_Insert.cslen, List.length_take]; omega) (fun j v hj => by
      rw [← ht', List.getElem?_take] at hj
      split at hj
      · rw [Addr.add_lit, Nat.zero_add]
        show W0.cell? _ = _
        rw [bC hh0]; simpa using hj
      · cases hj)
  have hgr := Lib.run_append_grow_zeros (P := Tryz.prog) W0 30 3 30 106 i0 _ .i64 .i64 hu28 hu2 hi0 hz0 (some ⟨g, 0, none⟩) i n _ hold (n + 1 - i) (by omega) (by omega) (by omega) (by omega) (by rw [hzb]; omega) (by rw [hzb, show i + (n + 1 - i) = n + 1 by omega]; exact growslice_fits (by omega) (by omega))
  rw [show i + (n + 1 - i) = n + 1 by omega] at hgr
  obtain ⟨G, hG⟩ : ∃ G, G = grownCap W0 (n + 1) n 106 := ⟨_, rfl⟩
  have hGn : n + 1 ≤ G := by rw [hG]; exact grownCap_ge W0 _ _ _
  have hGm : G ≤ maxLen := by rw [hG]; exact grownCap_le_maxLen W0 (n + 1) n 106 (by unfold maxLen; omega)
  rw [← hG] at hgr
  obtain ⟨ROW, hROW⟩ : ∃ ROW : Array Value, ROW = ((l.take i).flatMap slices_Insert.cs).toArray ++ Builtin.zeroCells (Value.agg #[Value.int IntKind.i64 0, Value.string { data := #[] }, Value.string { data := #[] }]).cells (n + 1 - i) ++ Builtin.zeroCells (Value.agg #[Value.int IntKind.i64 0, Value.string { data := #[] }, Value.string { data := #[] }]).cells (G - (n + 1)) := ⟨_, rfl⟩
  rw [← hROW] at hgr
  have hXl : ((l.take i).flatMap slices_Insert.cs).length = i * 3 := by rw [slices_Insert.cslen, List.length_take]; omega
  have hRs : ROW.size = G * 3 := by
    rw [hROW, Array.size_append, Array.size_append, size_zeroCells, size_zeroCells, List.size_toArray, hXl]
    show i * 3 + (n + 1 - i) * 3 + (G - (n + 1)) * 3 = G * 3
    omega
  have hRt : ROW.toList.take (i * 3) = (l.take i).flatMap slices_Insert.cs := by
    rw [hROW, Array.toList_append, Array.toList_append, List.append_assoc, List.toList_toArray, List.take_left' hXl]
  clear hROW hold
  obtain ⟨W1, hW1⟩ : ∃ W1, W1 = W0.drew.alloc (.cells ROW 106) := ⟨_, rfl⟩
  have hW1h : W1.heap[W0.heap.size]? = some (.cells ROW 106 (0, 0)) := by rw [hW1]; exact heap_alloc_new W0.drew _
  rw [← hW1] at hgr
  rw [hs0] at hgr hW1h
  have K1 : ∀ k, k < W.heap.size + 1 → W1.heap[k]? = W0.heap[k]? := fun k hk => by rw [hW1]; exact heap_alloc_old W0.drew _ (by show k < W0.heap.size; omega)
  have K0 : ∀ k, k < W.heap.size → W1.heap[k]? = W.heap[k]? := fun k hk => by rw [K1 k (by omega), hW0]; exact Below.heap_alloc W _ k hk
  have z1 : W1.heap.size = W.heap.size + 2 := by rw [hW1]; show (W0.heap.push _).size = _; rw [Array.size_push, hs0]
  have o1 : W1.os = W.os ∧ W1.tape = W.tape ∧ W1.output = W.output := by rw [hW1, hW0]; exact ⟨rfl, rfl, rfl⟩
  have hx1 : ∀ j v, (slices_Insert.cs x)[j]? = some v → W1.cell? ((⟨W.heap.size, 0, none⟩ : Addr).add j) = some v := fun j v hj => by
    rw [Addr.add_lit, Nat.zero_add, ← hx0 j v hj]
    exact World.cell?_of_block (K1 W.heap.size (by omega))
  have hcs3 : (slices_Insert.cs x).length = 3 := rfl
  have hsz : (Tryz.prog.info? 106).map (·.size) = some 3 := by rw [hi0]; simp [hzs]
  have m1 : Nat.min 1 (n + 1 - i) = 1 := by simp only [Nat.min_def]; rw [if_pos (by omega)]
  have m2 : Nat.min (n - i) (n + 1 - (i + 1)) = n - i := by simp only [Nat.min_def]; rw [if_pos (by omega)]
  have one1 : ∀ v ∈ slices_Insert.cs x, v.oneCell' = true := fun v hv => slices_Insert.one [x] v (by simpa using hv)
  have hcA : ∀ ty dc, (Builtin.copy_ #[30, 30] ty #[.slice (some ⟨W.heap.size + 1, i * 3, none⟩) (n + 1 - i) dc, .slice (some ⟨W.heap.size, 0, none⟩) 1 1]).run Tryz.prog W1 = .ok (goInt 1) (W1.setRow (W.heap.size + 1) (ROW.toList.take (i * 3) ++ slices_Insert.cs x ++ ROW.toList.drop (i * 3 + 3)).toArray) := fun ty dc => by
    have := slices_Insert.copy (P := Tryz.prog) W1 30 30 ty 106 (W.heap.size + 1) (i * 3) (n + 1 - i) dc ⟨W.heap.size, 0, none⟩ 1 1 ROW 106 (slices_Insert.cs x) hu28 hsz hW1h (by rw [m1, hcs3]) hx1 (by rw [hcs3, hRs]; omega) one1
    rw [m1, hcs3] at this
    exact this
  obtain ⟨ROW2, hROW2⟩ : ∃ r, r = (ROW.toList.take (i * 3) ++ slices_Insert.cs x ++ ROW.toList.drop (i * 3 + 3)).toArray := ⟨_, rfl⟩
  rw [← hROW2] at hcA
  have hR2s : ROW2.size = G * 3 := by
    rw [hROW2, List.size_toArray, List.length_append, List.length_append, hcs3, List.length_take, List.length_drop, Array.length_toList, hRs]
    omega
  have hR2t : ROW2.toList.take (i * 3 + 3) = (l.take i).flatMap slices_Insert.cs ++ slices_Insert.cs x := by
    rw [hROW2, List.toList_toArray, hRt, List.take_left' (by rw [List.length_append, hXl, hcs3])]
  obtain ⟨W2, hW2⟩ : ∃ W2, W2 = W1.setRow (W.heap.size + 1) ROW2 := ⟨_, rfl⟩
  rw [← hW2] at hcA
  have hW2h : W2.heap[W.heap.size + 1]? = some (.cells ROW2 106 (0, 0)) := by rw [hW2]; exact setRow_heap W1 _ ROW ROW2 _ _ hW1h
  have K2 : ∀ k, k ≠ W.heap.size + 1 → W2.heap[k]? = W1.heap[k]? := fun k hk => by
    rw [hW2]; simp [World.setRow, Array.getElem?_modify, Ne.symm hk]
  have z2 : W2.heap.size = W.heap.size + 2 := by rw [hW2]; simp [World.setRow, z1]
  have o2 : W2.os = W.os ∧ W2.tape = W.tape ∧ W2.output = W.output := by rw [hW2]; exact o1
  have hd2 : ∀ j v, ((l.drop i).flatMap slices_Insert.cs)[j]? = some v → W2.drew.cell? ((⟨g, i * 3, none⟩ : Addr).add j) = some v := fun j v hj => by
    rw [Addr.add_lit, ← hd' j v hj]
    refine World.cell?_of_block ?_
    exact (K2 g (by omega)).trans (K1 g (by omega))
  have hdl : ((l.drop i).flatMap slices_Insert.cs).length = (n - i) * 3 := by rw [slices_Insert.cslen, List.length_drop, hn]
  have hcB : ∀ ty dc sc, (Builtin.copy_ #[30, 30] ty #[.slice (some ⟨W.heap.size + 1, (i + 1) * 3, none⟩) (n + 1 - (i + 1)) dc, .slice (some ⟨g, i * 3, none⟩) (n - i) sc]).run Tryz.prog W2.drew = .ok (goInt ((n - i : Nat) : Int)) (W2.drew.setRow (W.heap.size + 1) (ROW2.toList.take ((i + 1) * 3) ++ (l.drop i).flatMap slices_Insert.cs ++ ROW2.toList.drop ((i + 1) * 3 + (n - i) * 3)).toArray) := fun ty dc sc => by
    have := slices_Insert.copy (P := Tryz.prog) W2.drew 30 30 ty 106 (W.heap.size + 1) ((i + 1) * 3) (n + 1 - (i + 1)) dc ⟨g, i * 3, none⟩ (n - i) sc ROW2 106 ((l.drop i).flatMap slices_Insert.cs) hu28 hsz hW2h (by rw [m2, hdl]) hd2 (by rw [hdl, hR2s]; omega) (slices_Insert.one _)
    rw [m2, hdl] at this
    exact this
  obtain ⟨ROW3, hROW3⟩ : ∃ r, r = (ROW2.toList.take ((i + 1) * 3) ++ (l.drop i).flatMap slices_Insert.cs ++ ROW2.toList.drop ((i + 1) * 3 + (n - i) * 3)).toArray := ⟨_, rfl⟩
  rw [← hROW3] at hcB
  have hlen : (l.take i ++ x :: l.drop i).length = n + 1 := by rw [List.length_append, List.length_cons, List.length_take, List.length_drop]; omega
  have hR3s : ROW3.size = G * 3 := by
    rw [hROW3, List.size_toArray, List.length_append, List.length_append, hdl, List.length_take, List.length_drop, Array.length_toList, hR2s]
    omega
  have hR3t : ROW3.toList.take ((l.take i ++ x :: l.drop i).length * 3) = (l.take i ++ x :: l.drop i).flatMap slices_Insert.cs := by
    rw [hROW3, List.toList_toArray, hlen, show (i + 1) * 3 = i * 3 + 3 by omega, hR2t, List.take_left' (by rw [List.length_append, List.length_append, hXl, hcs3, hdl]; omega)]
    simp
  have EN : ∀ W3 : World, W3.heap = (W2.setRow (W.heap.size + 1) ROW3).heap → W3.os = W2.os ∧ W3.tape = W2.tape ∧ W3.output = W2.output → Kd.R k106 106 W3 base ok (.slice (some ⟨W.heap.size + 1, 0, none⟩) (n + 1) G) (l.take i ++ x :: l.drop i) ∧ W.grownBy W3 (some g) := fun W3 h3 h4 => by
    have e : W3.heap[W.heap.size + 1]? = some (.cells ROW3 106 (0, 0)) := by rw [h3]; exact setRow_heap W2 _ ROW2 ROW3 _ _ hW2h
    have r := slices_Insert.row (base := base) (ok := ok) (xs := l.take i ++ x :: l.drop i) e (by omega) (hok _ (by omega)) (by rw [hlen]; exact hGn) hGm hR3s hR3t
    rw [hlen] at r
    refine ⟨r, ?_, ?_, ?_, ?_, fun k hk _ => ?_⟩
    · rw [h4.1]; exact o2.1
    · rw [h4.2.1]; exact o2.2.1
    · rw [h4.2.2]; exact o2.2.2
    · rw [h3]; show _ ≤ (W2.setRow _ _).heap.size; simp [World.setRow, z2]
    · rw [h3]
      rw [show (W2.setRow (W.heap.size + 1) ROW3).heap[k]? = W2.heap[k]? from by simp [World.setRow, Array.getElem?_modify, show ¬ (W.heap.size + 1 = k) by omega]]
      rw [K2 k (by omega)]; exact K0 k hk
  have EN' := mK EN
  have hm' : n ≤ 140737488355328 := by omega
  subst hn
  have q1 : (0 : Int) ≤ (i : Int) := by omega
  have q2 : (i : Int) ≤ (l.length : Int) := by omega
  have q3 : ¬ ((i : Int) = (l.length : Int)) := by omega
  have q4 : IntKind.i64.wrap ((l.length : Int) + 1) = (l.length : Int) + 1 := by rw [IntKind.wrap_i64]; omega
  have q6 : IntKind.i64.wrap ((l.length : Int) + 1 - (i : Int)) = ((l.length + 1 - i : Nat) : Int) := by rw [IntKind.wrap_i64]; omega
  have q7 : ¬ (l.length = i) := by omega
  have q8 : ¬ (G = i) := by omega
  have q9 : IntKind.i64.wrap ((i : Int) + 1) = (i : Int) + 1 := by rw [IntKind.wrap_i64]; omega
  have q10 : ¬ (G = i + 1) := by omega
  have q11 : ((i : Int) + 1).toNat = i + 1 := by omega
  have q12 : (0 : Int) ≤ (i : Int) + 1 := by omega
  have q13 : (i : Int) ≤ (l.length : Int) + 1 := by omega
  have q14 : (i : Int) + 1 ≤ (l.length : Int) + 1 := by omega
  have q15 : i * 3 < G * 3 := by omega
  clear hR hcs ht ht' hcm hokg hb hi0 hz0 hW0 hs0 hh0 hx0 hd' hW1 hW1h K1 K0 z1 o1 hx1 hsz one1 hROW2 hR2s hR2t hW2 hW2h K2 z2 o2 hd2 hROW3 hR3s hR3t EN hG hRs hRt hdl hlen m1 m2 hh hXl hgW
  go_enter Tryz.func159, Tryz.ntmps159
  go_wp2_with (first | (at_builtin; refine Lib.wpList_append_run _ rfl _ _ _ _ rfl _ _ rfl rfl _ _ hgr ?_) | (at_builtin; refine Lib.wpList_copy_run _ rfl _ _ 30 30 rfl _ _ rfl rfl (hcA _ _) ?_))
  go_region_law (refine slices_Insert.stepC rfl _ _ 30 30 rfl (.slice (some ⟨W.heap.size + 1, (i + 1) * 3, none⟩) (l.length + 1 - (i + 1)) (G - (i + 1))) (.slice (some ⟨g, i * 3, none⟩) (l.length - i) (l.length - i)) (by simp [Act.eval, Act.put]) (by simp [Act.eval, Act.put]) (hcB _ _ _) ?_)
  go_wp2
  go_ret
  exact ⟨_, rfl, (EN'.out (W2.drew.setRow (W.heap.size + 1) ROW3) rfl ⟨rfl, rfl, rfl⟩).1, (EN'.out (W2.drew.setRow (W.heap.size + 1) ROW3) rfl ⟨rfl, rfl, rfl⟩).2, .inr ⟨W.heap.size + 1, rfl, Nat.le_succ _⟩⟩
theorem slices_Insert.shifts (base g cap : Nat) (ok : Nat → Prop) (i : Nat) (l : List S106) (x : S106) (W : World) (hR : Kd.R k106 106 W base ok (.slice (some ⟨g, 0, none⟩) l.length cap) l) (hi : i < l.length) (hcap : l.length < cap) (hok : ∀ k, W.heap.size ≤ k → ok k) (hbase : base ≤ W.heap.size) (hl : (l.length + 1) * 40 ≤ 140737488355328) :
    Calls Tryz.prog 159 #[.slice (some ⟨g, 0, none⟩) l.length cap, .int .i64 (i : Int), .slice (some ⟨W.heap.size, 0, none⟩) 1 1] (W.alloc (.cells (slices_Insert.cs x).toArray 106)) fun e w' => ∃ v', e = .returned v' ∧ Kd.R k106 106 w' base ok v' (l.take i ++ x :: l.drop i) ∧ W.grownBy w' (Value.slice (some ⟨g, 0, none⟩) l.length cap).ownBlock ∧ (v'.ownBlock = (Value.slice (some ⟨g, 0, none⟩) l.length cap).ownBlock ∨ ∃ b, v'.ownBlock = some b ∧ W.heap.size ≤ b) := by
  have hu28 := Tryz.underlying30
  obtain ⟨cur, hh, hb, hokg, -, -, hcm, hcs, ht⟩ := slices_Insert.cells hR
  have hgW : g < W.heap.size := (Array.getElem?_eq_some_iff.1 hh).1
  obtain ⟨i0, hi0, hz0, hzs, hzb⟩ := info_parts info106
  obtain ⟨W0, hW0⟩ : ∃ W0, W0 = W.alloc (.cells (slices_Insert.cs x).toArray 106) := ⟨_, rfl⟩
  have hh0 : W0.heap[g]? = some (.cells cur 106 (0, 0)) := by rw [hW0]; exact (Below.heap_alloc W _ g hgW).trans hh
  have hv0 : W0.heap[W.heap.size]? = some (.cells (slices_Insert.cs x).toArray 106 (0, 0)) := by rw [hW0]; exact heap_alloc_new W _
  have z0 : W0.heap.size = W.heap.size + 1 := by rw [hW0]; unfold World.alloc; exact Array.size_push _
  have K0 : ∀ k, k < W.heap.size → W0.heap[k]? = W.heap[k]? := fun k hk => by rw [hW0]; exact Below.heap_alloc W _ k hk
  have o0 : W0.os = W.os ∧ W0.tape = W.tape ∧ W0.output = W.output := by rw [hW0]; exact ⟨rfl, rfl, rfl⟩
  obtain ⟨n, hn⟩ : ∃ n, n = l.length := ⟨_, rfl⟩
  have e2 : l.flatMap slices_Insert.cs = (l.take i).flatMap slices_Insert.cs ++ (l.drop i).flatMap slices_Insert.cs := by rw [← List.flatMap_append, List.take_append_drop]
  have hXl : ((l.take i).flatMap slices_Insert.cs).length = i * 3 := by rw [slices_Insert.cslen, List.length_take]; omega
  have hdl : ((l.drop i).flatMap slices_Insert.cs).length = (n - i) * 3 := by rw [slices_Insert.cslen, List.length_drop, hn]
  have ht' : cur.toList.take (i * 3) = (l.take i).flatMap slices_Insert.cs := by
    have e : cur.toList.take (i * 3) = (cur.toList.take (l.length * 3)).take (i * 3) := by rw [List.take_take, Nat.min_eq_left (by omega)]
    rw [e, ht, e2, List.take_left' hXl]
  have hd' : ∀ j v, ((l.drop i).flatMap slices_Insert.cs)[j]? = some v → W0.drew.cell? ((⟨g, i * 3, none⟩ : Addr).add j) = some v := fun j v hj => by
    have hj2 : (l.flatMap slices_Insert.cs)[i * 3 + j]? = some v := by
      rw [e2, List.getElem?_append_right (by omega), hXl, show i * 3 + j - i * 3 = j by omega]; exact hj
    rw [← ht, List.getElem?_take] at hj2
    split at hj2
    · rw [Addr.add_lit]
      show W0.cell? _ = _
      rw [bC hh0]; simpa using hj2
    · cases hj2
  have hsz : (Tryz.prog.info? 106).map (·.size) = some 3 := by rw [hi0]; simp [hzs]
  have hcs3 : (slices_Insert.cs x).length = 3 := rfl
  have m1 : Nat.min (n + 1 - i) (n + 1 - (i + 1)) = n - i := by simp only [Nat.min_def]; split <;> omega
  have m2 : Nat.min 1 (n + 1 - i) = 1 := by simp only [Nat.min_def]; rw [if_pos (by omega)]
  have one1 : ∀ v ∈ slices_Insert.cs x, v.oneCell' = true := fun v hv => slices_Insert.one [x] v (by simpa using hv)
  have hcA : ∀ ty dc sc, (Builtin.copy_ #[30, 30] ty #[.slice (some ⟨g, (i + 1) * 3, none⟩) (n + 1 - (i + 1)) dc, .slice (some ⟨g, i * 3, none⟩) (n + 1 - i) sc]).run Tryz.prog W0.drew = .ok (goInt ((n - i : Nat) : Int)) (W0.drew.setRow g (cur.toList.take ((i + 1) * 3) ++ (l.drop i).flatMap slices_Insert.cs ++ cur.toList.drop ((i + 1) * 3 + (n - i) * 3)).toArray) := fun ty dc sc => by
    have := slices_Insert.copy (P := Tryz.prog) W0.drew 30 30 ty 106 g ((i + 1) * 3) (n + 1 - (i + 1)) dc ⟨g, i * 3, none⟩ (n + 1 - i) sc cur 106 ((l.drop i).flatMap slices_Insert.cs) hu28 hsz hh0 (by rw [m1, hdl]) hd' (by rw [hdl, hcs]; omega) (slices_Insert.one _)
    rw [m1, hdl] at this
    exact this
  obtain ⟨ROW, hROW⟩ : ∃ r, r = (cur.toList.take ((i + 1) * 3) ++ (l.drop i).flatMap slices_Insert.cs ++ cur.toList.drop ((i + 1) * 3 + (n - i) * 3)).toArray := ⟨_, rfl⟩
  rw [← hROW] at hcA
  have hRs : ROW.size = cap * 3 := by
    rw [hROW, List.size_toArray, List.length_append, List.length_append, hdl, List.length_take, List.length_drop, Array.length_toList, hcs]
    omega
  have hRt : ROW.toList.take (i * 3) = (l.take i).flatMap slices_Insert.cs := by
    rw [hROW, List.toList_toArray, List.append_assoc, List.take_append_of_le_length (by rw [List.length_take, Array.length_toList, hcs]; omega), List.take_take, Nat.min_eq_left (by omega), ht']
  have hRd : (ROW.toList.drop (i * 3 + 3)).take ((n - i) * 3) = (l.drop i).flatMap slices_Insert.cs := by
    rw [hROW, List.toList_toArray, List.append_assoc, List.drop_append, List.drop_of_length_le (by rw [List.length_take]; omega), List.length_take, Array.length_toList, hcs, Nat.min_eq_left (by omega), show i * 3 + 3 - (i + 1) * 3 = 0 by omega, List.drop_zero, List.nil_append, List.take_left' hdl]
  obtain ⟨W1, hW1⟩ : ∃ W1, W1 = W0.drew.setRow g ROW := ⟨_, rfl⟩
  rw [← hW1] at hcA
  have hW1h : W1.heap[g]? = some (.cells ROW 106 (0, 0)) := by rw [hW1]; exact setRow_heap W0.drew _ cur ROW _ _ hh0
  have K1 : ∀ k, k ≠ g → W1.heap[k]? = W0.heap[k]? := fun k hk => by
    rw [hW1]; simp [World.setRow, Array.getElem?_modify, Ne.symm hk]; rfl
  have z1 : W1.heap.size = W.heap.size + 1 := by rw [hW1]; show (W0.heap.modify _ _).size = _; rw [Array.size_modify, z0]
  have o1 : W1.os = W.os ∧ W1.tape = W.tape ∧ W1.output = W.output := by rw [hW1]; exact o0
  have hx1 : ∀ j v, (slices_Insert.cs x)[j]? = some v → W1.cell? ((⟨W.heap.size, 0, none⟩ : Addr).add j) = some v := fun j v hj => by
    rw [Addr.add_lit, Nat.zero_add]
    rw [bC ((K1 W.heap.size (by omega)).trans hv0)]
    simpa using hj
  have hcB : ∀ ty dc, (Builtin.copy_ #[30, 30] ty #[.slice (some ⟨g, i * 3, none⟩) (n + 1 - i) dc, .slice (some ⟨W.heap.size, 0, none⟩) 1 1]).run Tryz.prog W1 = .ok (goInt 1) (W1.setRow g (ROW.toList.take (i * 3) ++ slices_Insert.cs x ++ ROW.toList.drop (i * 3 + 3)).toArray) := fun ty dc => by
    have := slices_Insert.copy (P := Tryz.prog) W1 30 30 ty 106 g (i * 3) (n + 1 - i) dc ⟨W.heap.size, 0, none⟩ 1 1 ROW 106 (slices_Insert.cs x) hu28 hsz hW1h (by rw [m2, hcs3]) hx1 (by rw [hcs3, hRs]; omega) one1
    rw [m2, hcs3] at this
    exact this
  obtain ⟨ROW2, hROW2⟩ : ∃ r, r = (ROW.toList.take (i * 3) ++ slices_Insert.cs x ++ ROW.toList.drop (i * 3 + 3)).toArray := ⟨_, rfl⟩
  rw [← hROW2] at hcB
  have hR2s : ROW2.size = cap * 3 := by
    rw [hROW2, List.size_toArray, List.length_append, List.length_append, hcs3, List.length_take, List.length_drop, Array.length_toList, hRs]
    omega
  have hlen : (l.take i ++ x :: l.drop i).length = n + 1 := by rw [List.length_append, List.length_cons, List.length_take, List.length_drop]; omega
  have hR2t : ROW2.toList.take ((l.take i ++ x :: l.drop i).length * 3) = (l.take i ++ x :: l.drop i).flatMap slices_Insert.cs := by
    rw [hROW2, List.toList_toArray, hRt, hlen, show (n + 1) * 3 = (((l.take i).flatMap slices_Insert.cs ++ slices_Insert.cs x).length) + (n - i) * 3 by rw [List.length_append, hXl, hcs3]; omega, List.take_length_add_append, hRd]
    simp
  have EN : Kd.R k106 106 (W1.setRow g ROW2) base ok (.slice (some ⟨g, 0, none⟩) (n + 1) cap) (l.take i ++ x :: l.drop i) ∧ W.grownBy (W1.setRow g ROW2) (some g) := by
    have e : (W1.setRow g ROW2).heap[g]? = some (.cells ROW2 106 (0, 0)) := setRow_heap W1 _ ROW ROW2 _ _ hW1h
    have r := slices_Insert.row (base := base) (ok := ok) (xs := l.take i ++ x :: l.drop i) e hb hokg (by rw [hlen]; omega) hcm hR2s hR2t
    rw [hlen] at r
    refine ⟨r, o1.1, o1.2.1, o1.2.2, ?_, fun k hk hne => ?_⟩
    · simp [World.setRow, z1]
    · have hkg : k ≠ g := fun e => hne (by rw [e])
      rw [show (W1.setRow g ROW2).heap[k]? = W1.heap[k]? from by simp [World.setRow, Array.getElem?_modify, Ne.symm hkg]]
      rw [K1 k hkg]; exact K0 k hk
  have hov : ∀ lb cb, (callFunc 171 #[.slice (some ⟨W.heap.size, 0, none⟩) 1 1, .slice (some ⟨g, (i + 1) * 3, none⟩) lb cb]).run Tryz.prog W0 = .ok (.value (.bool false)) W0 := fun lb cb => by
    rw [run_callFunc_extern Tryz.func171 (by kernel_rfl) (by kernel_rfl) (by kernel_rfl) (e := Extern.SlicesOverlaps.overlaps #[30, 30] #[4]) (by kernel_rfl),
      Lib.run_overlaps_apart W0 30 4 106 hu28 3 (fun w => by kernel_rfl) ⟨W.heap.size, 0, none⟩ ⟨g, (i + 1) * 3, none⟩ 1 1 lb cb (by show W.heap.size ≠ g; omega) 106 106 3 (cap * 3) (by simp [World.shape?, hv0]; rfl) (by simp [World.shape?, hh0, hcs]) (by omega) (bF hv0 _) (bF hv0 _)]
    rfl
  have EN' := mK EN
  have hm' : n ≤ 140737488355328 := by omega
  have hcm' : cap ≤ 9223372036854775807 := by unfold maxLen at hcm; omega
  subst hn
  rw [← hW0]
  have q1 : (0 : Int) ≤ (i : Int) := by omega
  have q2 : (i : Int) ≤ (l.length : Int) := by omega
  have q3 : ¬ ((i : Int) = (l.length : Int)) := by omega
  have q4 : IntKind.i64.wrap ((l.length : Int) + 1) = (l.length : Int) + 1 := by rw [IntKind.wrap_i64]; omega
  have q5 : ¬ ((cap : Int) < (l.length : Int) + 1) := by omega
  have q7 : ¬ (cap = i) := by omega
  have q9 : IntKind.i64.wrap ((i : Int) + 1) = (i : Int) + 1 := by rw [IntKind.wrap_i64]; omega
  have q10 : ¬ (cap = i + 1) := by omega
  have q11 : ((i : Int) + 1).toNat = i + 1 := by omega
  have q12 : (0 : Int) ≤ (i : Int) + 1 := by omega
  have q13 : (i : Int) ≤ (l.length : Int) + 1 := by omega
  have q14 : (i : Int) + 1 ≤ (l.length : Int) + 1 := by omega
  have q16 : (l.length : Int) ≤ (cap : Int) := by omega
  have q17 : (l.length : Int) + 1 ≤ (cap : Int) := by omega
  have q18 : ((l.length : Int) + 1).toNat = l.length + 1 := by omega
  have q19 : (0 : Int) ≤ (l.length : Int) + 1 := by omega
  clear hR hcs ht ht' hcm hokg hb hi0 hz0 hW0 hh0 hd' hW1 hW1h K1 K0 z1 z0 o1 o0 hx1 hsz one1 hROW2 hR2s hR2t hROW EN hRs hRt hRd hdl hlen m1 m2 hh hXl hgW hv0 e2
  go_enter Tryz.func159, Tryz.ntmps159
  go_wp2_with (simp only [hov])
  go_region_law (refine slices_Insert.stepC rfl _ _ 30 30 rfl (.slice (some ⟨g, (i + 1) * 3, none⟩) (l.length + 1 - (i + 1)) (cap - (i + 1))) (.slice (some ⟨g, i * 3, none⟩) (l.length + 1 - i) (cap - i)) (by simp [Act.eval, Act.put]) (by simp [Act.eval, Act.put]) (hcA _ _ _) ?_)
  go_wp2_with (at_builtin; refine Lib.wpList_copy_run _ rfl _ _ 30 30 rfl _ _ rfl rfl (hcB _ _) ?_)
  go_ret
  exact ⟨_, rfl, EN'.out.1, EN'.out.2, .inl rfl⟩
theorem slices_Insert.walk (base : Nat) (ok : Nat → Prop) (A : Option Addr) (cap i : Nat) (l : List S106) (x : S106) (w0 W : World) (hR : Kd.R k106 106 W base ok (.slice A l.length cap) l) (hi : i ≤ l.length) (hok : ∀ k, W.heap.size ≤ k → ok k) (hB : Below base w0 W) (hbase : base ≤ W.heap.size) (hl : (l.length + 1) * 40 ≤ 140737488355328) :
    Calls Tryz.prog 159 #[.slice A l.length cap, .int .i64 (i : Int), .slice (some ⟨W.heap.size, 0, none⟩) 1 1] (W.alloc (.cells (slices_Insert.cs x).toArray 106)) fun e w' => ∃ v', e = .returned v' ∧ Kd.R k106 106 w' base ok v' (l.take i ++ x :: l.drop i) ∧ W.grownBy w' (Value.slice A l.length cap).ownBlock ∧ (v'.ownBlock = (Value.slice A l.length cap).ownBlock ∨ ∃ b, v'.ownBlock = some b ∧ W.heap.size ≤ b) := by
  rcases Nat.eq_or_lt_of_le hi with rfl | hlt
  · have := slices_Insert.atEnd base ok A cap l x w0 W hR hok hB hbase hl
    simpa using this
  · obtain ⟨hn, hnc, _⟩ := rR hR
    obtain ⟨go, cap', eo, gb, gl, cells, hgo⟩ := Kd.R_form hR (by omega)
    obtain ⟨rfl, -, rfl⟩ := Value.slice.inj eo
    rcases Nat.eq_or_lt_of_le hnc with rfl | hc
    · exact slices_Insert.grows base go ok i l x W hR hlt hok hbase hl
    · exact slices_Insert.shifts base go cap ok i l x W hR hlt hc hok hbase hl
theorem impl_Store.bound (s : ByteArray) (l : List S106) (y i : Int) (b : Bool) (h : impl_Device_find.f s l y = some (i, b)) : 0 ≤ i ∧ i ≤ (l.length : Int) ∧ (b = true → i < (l.length : Int)) := by
  unfold impl_Device_find.f at h
  split at h
  · split at h
    · obtain ⟨rfl, rfl⟩ := Prod.mk.inj (Option.some.inj h)
      refine ⟨by omega, ?_, fun hb => ?_⟩
      · have := List.countP_le_length (p := fun x : S106 => decide (x.f0 < y)) (l := l)
        unfold impl_Device_find.idx; omega
      · simp only [Bool.and_eq_true, decide_eq_true_eq] at hb
        omega
    · cases h
  · cases h
def impl_Store.ins (s : ByteArray) (l : List S106) (y i : Int) (b : Bool) : Option (List S106) := if b = true then some l else (impl_Device_safeLine.f s l y).bind fun z => if l.length < 3518437208883 then some (l.take i.toNat ++ ⟨y, z, (⟨#[]⟩ : ByteArray)⟩ :: l.drop i.toNat) else none
def impl_Store.fin (l : List S106) (m : Int) (t : ByteArray) (i : Int) : Option (List S106) := (impl_replaced.f (rd_T106 l i).f1 m t).bind fun z => some (l.set i.toNat ⟨(rd_T106 l i).f0, z, (rd_T106 l i).f2⟩)
theorem impl_Store.store (lf cn : Int) (base g : Nat) (ok : Nat → Prop) (s : ByteArray) (A : Option Addr) (c : Nat) (l : List S106) (a y m : Int) (t : ByteArray) (i : Int) (b : Bool) (L L2 : List S106) (w0 w : World) (hy : y = wrap64 (Int.tdiv a 64)) (hm : m = Int.tmod a 64) (hbk : w.heap[g]? = some (.cells #[.string s, .slice A l.length c, .int .i64 lf, .int .i64 cn] 111 (0, 0)))
    (hR : Kd.R k106 106 w base ok (.slice A l.length c) l) (hok : ∀ k, ok k → k ≠ g) (hfr : ∀ k, w.heap.size ≤ k → ok k) (hB : Below base w0 w) (hbw : base ≤ w.heap.size) (hgb : base ≤ g) (hf : impl_Device_find.f s l y = some (i, b)) (hi : impl_Store.ins s l y i b = some L) (hfi : impl_Store.fin L m t i = some L2) :
    Calls Tryz.prog 138 #[.pointer (some ⟨g, 0, none⟩), .int .i64 a, .string t] w fun e w' => e = .returned (.tuple #[]) ∧ ∃ v', w'.heap[g]? = some (.cells #[.string s, v', .int .i64 lf, .int .i64 cn] 111 (0, 0)) ∧ Kd.R k106 106 w' base ok v' L2 ∧ Below base w0 w' ∧ w.heap.size ≤ w'.heap.size ∧ ∀ k, k < w.heap.size → k ≠ g → some k ≠ (Value.slice A l.length c).ownBlock → w'.heap[k]? = w.heap[k]? := by
  have hu30 := Tryz.underlying32
  have hu67 := Tryz.underlying106
  obtain ⟨i0, il, ib⟩ := impl_Store.bound s l y i b hf
  have F := mK hf
  have BK := mK hbk
  have HR := mK hR
  have HB := mK hB
  have OK := mK hok
  have FR := mK hfr
  have q3 : IntKind.i64.wrap (Int.tdiv a 64) = y := by rw [i64_w]; exact hy.symm
  have q4 : Int.tmod a 64 = m := hm.symm
  have hcz0 : w.cell? ⟨g, 0, none⟩ = some (.string s) := (bC BK.out 0).trans rfl
  have hcz1 : w.cell? ⟨g, 1, none⟩ = some (.slice A l.length c) := (bC BK.out 1).trans rfl
  have hgW : g < w.heap.size := blk_lt BK.out
  clear hf hbk hR hB hok hfr hy hm
  obtain ⟨n, rfl⟩ := Int.eq_ofNat_of_zero_le i0
  unfold impl_Store.fin at hfi
  obtain ⟨z2, hz2, hfi⟩ := Option.bind_eq_some_iff.mp hfi
  obtain rfl := Option.some.inj hfi
  clear hfi
  have RP := mK hz2
  clear hz2
  by_cases hb1 : b = true
  · subst hb1
    have i1 := ib rfl
    clear ib
    unfold impl_Store.ins at hi
    rw [if_pos rfl] at hi
    obtain rfl := Option.some.inj hi
    clear hi
    have hpos : 0 < l.length := by omega
    obtain ⟨go, cap, eo, gb, gl, cells, hgo⟩ := Kd.R_form HR.out hpos
    obtain ⟨rfl, -, rfl⟩ := Value.slice.inj eo
    clear eo
    go_enter Tryz.func138, Tryz.ntmps138
    go_wp2_with (go_at_call 155; (with_reducible refine (impl_Device_find.calls s _ _ l y (n : Int) true _ ?side1 ?side2 F.out).mono ?_); (case side1 => exact (rR HR.out).2.2); (case side2 => exact (rR HR.out).2.1); rintro e w2 ⟨rfl, hb⟩; replace HB := mK (HB.out.trans (hb.mono hbw)); replace BK := mK (bB BK.out hb); replace HR := mK (rB HR.out hb); have HBB := mK hb; clear hcz0 hcz1; clear hb)
    have n1 : n < l.length := by omega
    have DR := mK (rD HR.out)
    obtain ⟨ce, hcl, hM, hcc, hfr⟩ := Kd.R_elem DR.out z106 (n : Int) (by omega) (by omega)
    obtain rfl := k106_openM hM
    have HP := mK (Kd.R_seg DR.out (n : Int) (by omega) (by omega) (seg := [.string z2]) (j := 1) hcl hcc (show 2 ≤ 3 from by decide) (x' := (⟨(rd_T106 l (n : Int)).f0, z2, (rd_T106 l (n : Int)).f2⟩ : S106)) (k106_mkM _ _ _ (⟨(rd_T106 l (n : Int)).f0, z2, (rd_T106 l (n : Int)).f2⟩ : S106)) (fun _ hk => hk))
    have hx1 : w2.drew.cell? ⟨go, n * 3 + 1, none⟩ = some (.string (rd_T106 l (n : Int)).f1) := hcc 1 _ rfl
    have hf1 : w2.drew.frozen? ⟨go, n * 3 + 1, none⟩ = false := hfr 1
    have hx1' : w2.cell? ⟨go, n * 3 + 1, none⟩ = some (.string (rd_T106 l (n : Int)).f1) := hx1
    have hf1' : w2.frozen? ⟨go, n * 3 + 1, none⟩ = false := hf1
    have hcz0 : w2.drew.cell? ⟨g, 0, none⟩ = some (.string s) := (bC (bD BK.out) 0).trans rfl
    have hcz1 : w2.drew.cell? ⟨g, 1, none⟩ = some (.slice (some ⟨go, 0, none⟩) l.length c) := (bC (bD BK.out) 1).trans rfl
    have hcz0' : w2.cell? ⟨g, 0, none⟩ = some (.string s) := hcz0
    have hcz1' : w2.cell? ⟨g, 1, none⟩ = some (.slice (some ⟨go, 0, none⟩) l.length c) := hcz1
    have nok : go ≠ g := OK.out go (HR.out.1 go (by simp [Value.ownBlock]))
    generalize hxx : rd_T106 l (n : Int) = x at *
    have EP := mK hxx
    clear hcl hM hcc hfr F hxx
    go_wp2
    go_region_law (refine goes_ Tryz.func158 (by kernel_rfl) rfl #[.string x.f1, .int .i64 m, .string t] (by simp [Region.wanted]) rfl rfl (by first | rfl | (simp [Act.eval, Act.put]; done)) ?_; (with_reducible refine (impl_replaced.calls x.f1 m t z2 _ RP.out).mono ?_); rintro e w11 ⟨rfl, ⟨nd, rfl⟩⟩; refine ⟨_, rfl, ?_⟩)
    all_goals
      go_wp2
      go_end0
      rw [EP.out]
      refine ⟨rfl, _, blk_far (bN BK.out _) nok.symm _, Kd.R_move HP.out.1 (fun _ _ => rfl), (lN HB.out _).setCell (p := ⟨go, _, none⟩) gb _, ?_, fun k0 hk0 hkg hne => ?_⟩
      · have := HBB.out.size; simpa [World.setCell] using this
      · have hne' : go ≠ k0 := fun e => hne (by rw [← e]; simp [Value.ownBlock])
        exact (Below.heap_setCell _ _ _ k0 hne'.symm).trans (HBB.out.block k0 hk0)
  · replace hb1 := Bool.eq_false_iff.mpr hb1
    subst hb1
    clear ib
    unfold impl_Store.ins at hi
    rw [if_neg (by decide)] at hi
    obtain ⟨z, hz, hi⟩ := Option.bind_eq_some_iff.mp hi
    have SL := mK hz
    clear hz
    by_cases hlm : l.length < 3518437208883
    · rw [if_pos hlm] at hi
      obtain rfl := Option.some.inj hi
      clear hi
      rw [show ((n : Int)).toNat = n from Int.toNat_natCast n] at *
      have HLm := mK hlm
      have nl : n ≤ l.length := by omega
      clear hlm il i0
      have hLl : (l.take n ++ (⟨y, z, (⟨#[]⟩ : ByteArray)⟩ : S106) :: l.drop n).length = l.length + 1 := by rw [List.length_append, List.length_cons, List.length_take, List.length_drop]; omega
      have HLl := mK hLl
      have NL := mK nl
      clear hLl nl
      have LL : ∃ LL, LL = l.take n ++ (⟨y, z, (⟨#[]⟩ : ByteArray)⟩ : S106) :: l.drop n := ⟨_, rfl⟩
      obtain ⟨LL, hLL⟩ := LL
      rw [← hLL] at HLl RP ⊢
      have EL := mK hLL
      clear hLL
      go_enter Tryz.func138, Tryz.ntmps138
      go_wp2_with (go_at_call 155; (with_reducible refine (impl_Device_find.calls s _ _ l y (n : Int) false _ ?side1 ?side2 F.out).mono ?_); (case side1 => exact (rR HR.out).2.2); (case side2 => exact (rR HR.out).2.1); rintro e w2 ⟨rfl, hb⟩; replace HB := mK (HB.out.trans (hb.mono hbw)); replace BK := mK (bB BK.out hb); replace HR := mK (rB HR.out hb); have HBB := mK hb; clear hcz0 hcz1; clear hb)
      have hcz0' : w2.cell? ⟨g, 0, none⟩ = some (.string s) := (bC BK.out 0).trans rfl
      have hcz1' : w2.cell? ⟨g, 1, none⟩ = some (.slice A l.length c) := (bC BK.out 1).trans rfl
      have hcz0 : w2.drew.cell? ⟨g, 0, none⟩ = some (.string s) := hcz0'
      have hcz1 : w2.drew.cell? ⟨g, 1, none⟩ = some (.slice A l.length c) := hcz1'
      have HB2 := mK (show base ≤ w2.drew.heap.size from Nat.le_trans hbw HBB.out.size)
      go_wp2
      go_region_law (first
        | (refine goes_ Tryz.func156 (by kernel_rfl) rfl #[.agg #[.string s, .slice A l.length c], .int .i64 y] (by simp [Region.wanted]) rfl rfl (by first | rfl | (simp [Act.eval, Act.put]; done)) ?_; (refine (impl_Device_safeLine.calls s A c l y z _ ?side1 ?side2 SL.out).mono ?_); (case side1 => exact (rR (rD HR.out)).2.2); (case side2 => exact (rR HR.out).2.1); rintro e w3 ⟨rfl, hb⟩; refine ⟨_, rfl, ?_⟩; replace HB := mK ((lD HB.out).trans (hb.mono HB2.out)); replace BK := mK (bB (bD BK.out) hb); replace HR := mK (rB (rD HR.out) hb); replace HBB := mK ((lD HBB.out).trans (hb.mono HBB.out.size)); clear hcz0 hcz1 hcz0' hcz1'; clear hb; have hcz0 : w3.cell? ⟨g, 0, none⟩ = some (.string s) := (bC BK.out 0).trans rfl; have hcz1 : w3.cell? ⟨g, 1, none⟩ = some (.slice A l.length c) := (bC BK.out 1).trans rfl; have hal1 : ∀ o, (w3.alloc o).cell? ⟨g, 1, none⟩ = some (.slice A l.length c) := fun o => (bC (bA BK.out o) 1).trans rfl)
        | (refine goes_ Tryz.func159 (by kernel_rfl) rfl #[.slice A l.length c, .int .i64 (n : Int), .slice (some ⟨w3.heap.size, 0, none⟩) 1 1] (by simp [Region.wanted]) rfl rfl (by first | rfl | (simp [Act.eval, Act.put]; done)) ?_; (refine (slices_Insert.walk base ok A c n l (⟨y, z, (⟨#[]⟩ : ByteArray)⟩ : S106) w0 w3 HR.out NL.out ?side1 HB.out ?side2 ?side3).mono ?_); (case side1 => exact fun k hk => FR.out k (Nat.le_trans HBB.out.size hk)); (case side2 => exact Nat.le_trans hbw HBB.out.size); (case side3 => have := HLm.out; omega); rintro e w4 ⟨v4, rfl, hR4, hg4, hat4⟩; refine ⟨_, rfl, ?_⟩; rw [← EL.out] at hR4; obtain ⟨A4, c4, e4⟩ := Kd.R_slice hR4; subst e4; have BK4 := mK ((hg4.block g (blk_lt BK.out) (Kd.R_away HR.out OK.out)).trans BK.out); have HR4 := mK hR4; have HG4 := mK hg4; have HA4 := mK hat4; clear hR4 hg4 hat4 hcz0 hcz1 hal1; have hcz0 : w4.cell? ⟨g, 0, none⟩ = some (.string s) := (bC BK4.out 0).trans rfl; have hcz1 : w4.cell? ⟨g, 1, none⟩ = some (.slice A l.length c) := (bC BK4.out 1).trans rfl; have hfz1 := bF BK4.out 1))
      all_goals
        have HR5 : Kd.R k106 106 (w4.setCell ⟨g, 1, none⟩ (.slice A4 LL.length c4)) base ok (.slice A4 LL.length c4) LL := Kd.R_far (p := ⟨g, 1, none⟩) HR4.out (fun k hk => OK.out k hk) _
        have BK5 := mK (show (w4.setCell ⟨g, 1, none⟩ (.slice A4 LL.length c4)).heap[g]? = some (.cells #[.string s, .slice A4 LL.length c4, .int .i64 lf, .int .i64 cn] 111 (0, 0)) from blk_put BK4.out 1 _ rfl)
        have HB5 := mK ((HB.out.grown HG4.out (Nat.le_trans hbw HBB.out.size) (Kd.R_base HR.out)).setCell (p := ⟨g, 1, none⟩) hgb (.slice A4 LL.length c4))
        have SZ5 := mK (show w.heap.size ≤ (w4.setCell ⟨g, 1, none⟩ (.slice A4 LL.length c4)).heap.size by have h1 := HBB.out.size; have h2 := HG4.out.size; simp [World.setCell]; omega)
        have FM5 := mK (show ∀ k, k < w.heap.size → k ≠ g → some k ≠ (Value.slice A l.length c).ownBlock → (w4.setCell ⟨g, 1, none⟩ (.slice A4 LL.length c4)).heap[k]? = w.heap[k]? from fun k hk hkg hne => (Below.heap_setCell _ _ _ k hkg).trans ((HG4.out.block k (Nat.lt_of_lt_of_le hk HBB.out.size) hne).trans (HBB.out.block k hk)))
        have GN := mK (show ∀ k, k < w.heap.size → some k ≠ (Value.slice A l.length c).ownBlock → some k ≠ (Value.slice A4 LL.length c4).ownBlock from fun k hk hne => by
          rcases HA4.out with h | ⟨b, h, hb⟩
          · rw [h]; exact hne
          · rw [h]; intro e; injection e with e; have := HBB.out.size; omega)
        generalize w4.setCell ⟨g, 1, none⟩ (.slice A4 LL.length c4) = W5 at *
        have nL : n < LL.length := by have h1 := HLl.out; have h2 := NL.out; omega
        have HR5 := mK HR5
        obtain ⟨go, cap, eo, gb, gl, cells, hgo⟩ := Kd.R_form HR5.out (by omega)
        obtain ⟨rfl, -, rfl⟩ := Value.slice.inj eo
        clear eo hgo HR4 BK4 HG4 HA4 HB BK HR HBB hcz0 hcz1 hfz1 cells gl F FR
        have DR := mK (rD HR5.out)
        obtain ⟨ce, hcl, hM, hcc, hfr⟩ := Kd.R_elem DR.out z106 (n : Int) (by omega) (by omega)
        obtain rfl := k106_openM hM
        have HP := mK (Kd.R_seg DR.out (n : Int) (by omega) (by omega) (seg := [.string z2]) (j := 1) hcl hcc (show 2 ≤ 3 from by decide) (x' := (⟨(rd_T106 LL (n : Int)).f0, z2, (rd_T106 LL (n : Int)).f2⟩ : S106)) (k106_mkM _ _ _ (⟨(rd_T106 LL (n : Int)).f0, z2, (rd_T106 LL (n : Int)).f2⟩ : S106)) (fun _ hk => hk))
        have hx1 : W5.drew.cell? ⟨go, n * 3 + 1, none⟩ = some (.string (rd_T106 LL (n : Int)).f1) := hcc 1 _ rfl
        have hf1 : W5.drew.frozen? ⟨go, n * 3 + 1, none⟩ = false := hfr 1
        have hx1' : W5.cell? ⟨go, n * 3 + 1, none⟩ = some (.string (rd_T106 LL (n : Int)).f1) := hx1
        have hf1' : W5.frozen? ⟨go, n * 3 + 1, none⟩ = false := hf1
        have hcz0 : W5.drew.cell? ⟨g, 0, none⟩ = some (.string s) := (bC (bD BK5.out) 0).trans rfl
        have hcz1 : W5.drew.cell? ⟨g, 1, none⟩ = some (.slice (some ⟨go, 0, none⟩) LL.length c4) := (bC (bD BK5.out) 1).trans rfl
        have hcz0' : W5.cell? ⟨g, 0, none⟩ = some (.string s) := hcz0
        have hcz1' : W5.cell? ⟨g, 1, none⟩ = some (.slice (some ⟨go, 0, none⟩) LL.length c4) := hcz1
        have nok : go ≠ g := OK.out go (HR5.out.1 go (by simp [Value.ownBlock]))
        have RP' := mK (show impl_replaced.f (rd_T106 LL (n : Int)).f1 m t = some z2 from RP.out)
        generalize hxx : rd_T106 LL (n : Int) = x at *
        have EP := mK hxx
        clear hcl hM hcc hfr hxx RP
        go_wp2
        go_region_law (refine goes_ Tryz.func158 (by kernel_rfl) rfl #[.string x.f1, .int .i64 m, .string t] (by simp [Region.wanted]) rfl rfl (by first | rfl | (simp [Act.eval, Act.put]; done)) ?_; (with_reducible refine (impl_replaced.calls x.f1 m t z2 _ RP'.out).mono ?_); rintro e w11 ⟨rfl, ⟨nd, rfl⟩⟩; refine ⟨_, rfl, ?_⟩)
        all_goals
          go_wp2
          go_end0
          rw [EP.out]
          refine ⟨rfl, _, blk_far (bN BK5.out _) nok.symm _, Kd.R_move HP.out.1 (fun _ _ => rfl), (lN HB5.out _).setCell (p := ⟨go, _, none⟩) gb _, ?_, fun k0 hk0 hkg hne => ?_⟩
          · have := SZ5.out; simpa [World.setCell] using this
          · have hne' : go ≠ k0 := fun e => GN.out k0 hk0 hne (by rw [← e]; simp [Value.ownBlock])
            exact (Below.heap_setCell _ _ _ k0 hne'.symm).trans (FM5.out k0 hk0 hkg hne)
    · rw [if_neg hlm] at hi; cases hi
theorem impl_Flush.bound (s : ByteArray) (l : List S106) (y i : Int) (b : Bool) (h : impl_Device_find.f s l y = some (i, b)) : 0 ≤ i ∧ (b = true → i < (l.length : Int)) := by
  unfold impl_Device_find.f at h
  split at h
  · split at h
    · obtain ⟨rfl, rfl⟩ := Prod.mk.inj (Option.some.inj h)
      refine ⟨by omega, fun hb => ?_⟩
      simp only [Bool.and_eq_true, decide_eq_true_eq] at hb
      omega
    · cases h
  · cases h
def impl_Flush.put (l : List S106) (i : Int) (b : Bool) : List S106 := if b = true then l.set i.toNat ⟨(rd_T106 l i).f0, (rd_T106 l i).f1, (rd_T106 l i).f1⟩ else l
theorem impl_Flush.flush (lf cn : Int) (base g : Nat) (ok : Nat → Prop) (s : ByteArray) (A : Option Addr) (c : Nat) (l : List S106) (y i : Int) (b : Bool) (w0 w : World) (hbk : w.heap[g]? = some (.cells #[.string s, .slice A l.length c, .int .i64 lf, .int .i64 cn] 111 (0, 0)))
    (hR : Kd.R k106 106 w base ok (.slice A l.length c) l) (hok : ∀ k, ok k → k ≠ g) (hB : Below base w0 w) (hbw : base ≤ w.heap.size) (hf : impl_Device_find.f s l y = some (i, b)) :
    Calls Tryz.prog 135 #[.pointer (some ⟨g, 0, none⟩), .int .i64 y] w fun e w' => e = .returned (.tuple #[]) ∧ w'.heap[g]? = some (.cells #[.string s, .slice A l.length c, .int .i64 lf, .int .i64 cn] 111 (0, 0)) ∧ Kd.R k106 106 w' base ok (.slice A l.length c) (impl_Flush.put l i b) ∧ Below base w0 w' ∧ w.heap.size ≤ w'.heap.size ∧ ∀ k, k < w.heap.size → some k ≠ (Value.slice A l.length c).ownBlock → w'.heap[k]? = w.heap[k]? := by
  have hu30 := Tryz.underlying32
  have hu67 := Tryz.underlying106
  obtain ⟨i0, ib⟩ := impl_Flush.bound s l y i b hf
  have F := mK hf
  have BK := mK hbk
  have HR := mK hR
  have HB := mK hB
  have hcz0 : w.cell? ⟨g, 0, none⟩ = some (.string s) := (bC BK.out 0).trans rfl
  have hcz1 : w.cell? ⟨g, 1, none⟩ = some (.slice A l.length c) := (bC BK.out 1).trans rfl
  clear hf hbk hR hB
  by_cases hb1 : b = true
  · subst hb1
    have i1 := ib rfl
    clear ib
    have hpos : 0 < l.length := by omega
    obtain ⟨go, cap, eo, gb, gl, cells, hgo⟩ := Kd.R_form HR.out hpos
    obtain ⟨rfl, -, rfl⟩ := Value.slice.inj eo
    clear eo
    go_enter Tryz.func135, Tryz.ntmps135
    go_wp2_with (go_at_call 155; (with_reducible refine (impl_Device_find.calls s _ _ l y i true _ ?side1 ?side2 F.out).mono ?_); (case side1 => exact (rR HR.out).2.2); (case side2 => exact (rR HR.out).2.1); rintro e w2 ⟨rfl, hb⟩; have n0_ := mK (HB.out.trans (hb.mono hbw)); have n1_ := mK (bB BK.out hb); have n2_ := mK (rB HR.out hb); clear HB BK HR hcz0 hcz1; have HB := n0_; have BK := n1_; have HR := n2_; have HBB := mK hb; clear n0_ n1_ n2_ hb)
    obtain ⟨n, rfl⟩ := Int.eq_ofNat_of_zero_le i0
    have n1 : n < l.length := by omega
    have DR := mK (rD HR.out)
    obtain ⟨ce, hcl, hM, hcc, hfr⟩ := Kd.R_elem DR.out z106 (n : Int) (by omega) (by omega)
    obtain rfl := k106_openM hM
    have HP := mK (Kd.R_seg DR.out (n : Int) (by omega) (by omega) (seg := [.string (rd_T106 l (n : Int)).f1]) (j := 2) hcl hcc (show 3 ≤ 3 from by decide) (x' := (⟨(rd_T106 l (n : Int)).f0, (rd_T106 l (n : Int)).f1, (rd_T106 l (n : Int)).f1⟩ : S106)) (k106_mkM _ _ _ (⟨(rd_T106 l (n : Int)).f0, (rd_T106 l (n : Int)).f1, (rd_T106 l (n : Int)).f1⟩ : S106)) (fun _ hk => hk))
    have hx1 : w2.drew.cell? ⟨go, n * 3 + 1, none⟩ = some (.string (rd_T106 l (n : Int)).f1) := hcc 1 _ rfl
    have hx2 : w2.drew.cell? ⟨go, n * 3 + 2, none⟩ = some (.string (rd_T106 l (n : Int)).f2) := hcc 2 _ rfl
    have hf2 : w2.drew.frozen? ⟨go, n * 3 + 2, none⟩ = false := hfr 2
    have hcz0 : w2.drew.cell? ⟨g, 0, none⟩ = some (.string s) := (bC (bD BK.out) 0).trans rfl
    have hcz1 : w2.drew.cell? ⟨g, 1, none⟩ = some (.slice (some ⟨go, 0, none⟩) l.length c) := (bC (bD BK.out) 1).trans rfl
    have nok : go ≠ g := hok go (HR.out.1 go (by simp [Value.ownBlock]))
    have EP := mK (show impl_Flush.put l (n : Int) true = l.set n ⟨(rd_T106 l (n : Int)).f0, (rd_T106 l (n : Int)).f1, (rd_T106 l (n : Int)).f1⟩ by unfold impl_Flush.put; rw [if_pos rfl]; rfl)
    generalize rd_T106 l (n : Int) = x at *
    clear hcl hM hcc hfr F
    go_wp2
    go_region
    all_goals
      go_wp2
      go_end0
      refine ⟨rfl, ?_, ?_, ?_, ?_, ?_⟩
      · exact blk_far (bD BK.out) nok.symm _
      · rw [EP.out]; exact HP.out.1
      · exact (Below.drew HB.out).setCell (p := ⟨go, _, none⟩) gb _
      · have := HBB.out.size; simpa [World.setCell] using this
      · intro k0 hk0 hne
        have hne' : go ≠ k0 := fun e => hne (by rw [← e]; simp [Value.ownBlock])
        exact (Below.heap_setCell _ _ _ k0 hne'.symm).trans (HBB.out.block k0 hk0)
  · replace hb1 := Bool.eq_false_iff.mpr hb1
    subst hb1
    clear ib
    have C0 := mK (rR HR.out)
    go_enter Tryz.func135, Tryz.ntmps135
    go_wp2_with (go_at_call 155; (with_reducible refine (impl_Device_find.calls s _ _ l y i false _ ?side1 ?side2 F.out).mono ?_); (case side1 => exact (rR HR.out).2.2); (case side2 => exact (rR HR.out).2.1); rintro e w2 ⟨rfl, hb⟩; have n0_ := mK (HB.out.trans (hb.mono hbw)); have n1_ := mK (bB BK.out hb); have n2_ := mK (rB HR.out hb); clear HB BK HR hcz0 hcz1; have HB := n0_; have BK := n1_; have HR := n2_; have HBB := mK hb; clear n0_ n1_ n2_ hb)
    go_end0
    exact ⟨rfl, BK.out, by unfold impl_Flush.put; rw [if_neg (by decide)]; exact HR.out, HB.out, HBB.out.size, fun k0 hk0 _ => HBB.out.block k0 hk0⟩
theorem impl_Fence.rfar {w : World} {base : Nat} {v : Value} {xs : List S106} (h : Kd.R k106 106 w base (fun _ => True) v xs) {p : Addr} (hp : ∀ k, v.ownBlock = some k → k ≠ p.block) (u : Value) : Kd.R k106 106 (w.setCell p u) base (fun _ => True) v xs :=
  rM (Kd.R_far (Kd.R_tight rfl h) (fun k hk => hp k hk.symm) u) (fun _ _ => trivial)
theorem impl_Fence.bstep {B : Nat} {w0 w w1 : World} (h : Below B w0 w) (hb : Below w.heap.size w w1) (hle : B ≤ w.heap.size) : Below B w0 w1 := h.trans (hb.mono hle)
theorem impl_Fence.sz {w U w8 : World} {row : Option Nat} {S : Nat → Prop} (_ : U.grownBy w8 row) (h : Kept w U S) : w.heap.size ≤ U.heap.size := h.1
theorem impl_Fence.app {P : Program} {ops : Array Oper} {rest : List Oper} {o : Oper} {a : Act} {Q : Exit → Act → World → Prop} {α : Type} (d : Kd α) {W : World} (base : Nat) (hgd : o.guard = none) (s x : Operand) (t e : TypeId) (z : Value) (bytes : Nat)
    (ho : o.op = .call { callee := .builtin .append, args := #[s, x], argTypes := #[t, t] })
    (ht : P.underlying t = some (.slice e)) (hinfo : (P.info? e).map (fun i => (i.zero, i.size, i.bytes)) = some (some z, d.sz, bytes)) (hz : z.cells.size = d.sz) (hs0 : 0 < d.sz) (hb0 : 0 < bytes)
    (v : Value) (xs : List α) (p : α) (cs : List Value) (hs : a.eval s = v) (hx : a.eval x = .slice (some ⟨W.heap.size, 0, none⟩) 1 1) (hp : d.M W base (fun _ => False) p cs)
    (HO : d.R e W base (fun _ => True) v xs) (hbase : base ≤ W.heap.size) (hl : (xs.length + 1) * bytes ≤ 140737488355328)
    (h : ∀ v1 w1, d.R e w1 base (fun _ => True) v1 (xs ++ [p]) → W.grownBy w1 v.ownBlock → wpList P ops Q rest (a.put o.dst v1) w1) :
    wpList P ops Q (o :: rest) a (W.alloc (.cells cs.toArray e)) :=
  Kd.R_append d (w0 := W) base hgd s x t e z bytes ho ht hinfo hz hs0 hb0 v xs p cs (fun _ => True) (fun _ => False) hs hx hp (fun _ hk => hk.elim) (fun _ _ => trivial) HO (Below.refl _ _) hbase hl (fun v1 w1 h1 _ h3 _ => h v1 w1 h1 h3)
def impl_Fence.safe (s : ByteArray) (x : S106) : Option ByteArray := if x.f2.toList = ([] : List UInt8) then some s else impl_replaced.f s (wrap64 (64 * x.f0)) x.f2
def impl_Fence.l : List S106 → ByteArray → List S106 → Option (ByteArray × List S106)
  | [], s, acc => some (s, acc)
  | x :: xs, s, acc => (impl_Fence.safe s x).bind fun s' => if x.f2.toList = x.f1.toList then impl_Fence.l xs s' acc else if acc.length < 3518437208880 then impl_Fence.l xs s' (acc ++ [⟨x.f0, x.f1, (⟨#[]⟩ : ByteArray)⟩]) else none
theorem impl_Fence.fence (lf cn : Int) (g : Nat) (s : ByteArray) (A : Option Addr) (c : Nat) (l : List S106) (s1 : ByteArray) (l1 : List S106) (w : World) (hbk : w.heap[g]? = some (.cells #[.string s, .slice A l.length c, .int .i64 lf, .int .i64 cn] 111 (0, 0)))
    (hC : Kd.C k106 w A l.length l) (hne : ∀ ad, A = some ad → 0 < l.length → ad.block ≠ g) (hf : impl_Fence.l l s [] = some (s1, l1)) :
    Calls Tryz.prog 136 #[.pointer (some ⟨g, 0, none⟩)] w fun e w' => e = .returned (.tuple #[]) ∧ ∃ v1, w'.heap[g]? = some (.cells #[.string s1, v1, .int .i64 lf, .int .i64 cn] 111 (0, 0)) ∧ Kd.R k106 106 w' w.heap.size (fun _ => True) v1 l1 ∧ Kept w w' (fun k => k = g) ∧ Below g w w' := by
  have hu30 := Tryz.underlying32
  have hu67 := Tryz.underlying106
  have H := mK hf
  have BKg := mK hbk
  have HC := mK hC
  have HNE := mK hne
  have HL := mK (Kd.C_max hC)
  have KP := mK (Kept.refl w (fun k => k = g))
  have HB := mK (Below.refl g w)
  have GLT := mK (blk_lt hbk)
  have HBW := mK (Nat.le_of_lt (blk_lt hbk))
  have hcg0 : w.cell? ⟨g, 0, none⟩ = some (.string s) := (bC BKg.out 0).trans rfl
  have hcg1 : w.cell? ⟨g, 1, none⟩ = some (.slice A l.length c) := (bC BKg.out 1).trans rfl
  clear hbk hC hne hf
  go_enter Tryz.func136, Tryz.ntmps136
  go_wp2_with (first | ((with_reducible refine gate_dst (N := 5) rfl ?_); refine Kd.R_lit k106 _ 106 ?hg (N := 5) ?hd (xs := ([] : List S106)) (inner := []) (ok := fun _ => True) (okp := fun _ => True) ?hr ?hp (fun _ hk => hk) trivial (Below.refl _ _) (Nat.le_refl _) (by simp) ?_; (case hd => rfl); (case hg => rfl); (case hr => first | (go_simp; done) | (go_simp; rfl)); (case hp => exact (Reps.none _ _)); intro v1 w1 ho hb hg_ hnew_; clear hg_ hnew_; have HO := mK ho; replace HB := mK (impl_Fence.bstep HB.out hb HBW.out); replace BKg := mK (bB BKg.out hb); replace KP := mK (KP.out.below hb); clear hcg0 hcg1; clear hb ho; have hcg0 : w1.cell? ⟨g, 0, none⟩ = some (.string s) := (bC BKg.out 0).trans rfl; have hcg1 : w1.cell? ⟨g, 1, none⟩ = some (.slice A l.length c) := (bC BKg.out 1).trans rfl))
  clear hcg0 hcg1 HBW
  go_loopg [2, 11] l.length (fun kq v2 v11 w' => ∃ (i : Nat) (s0 : ByteArray) (acc : List S106) (v : Value), v2 = v ∧ v11 = .int .i64 (i : Int) ∧ i ≤ l.length ∧ l.length - i ≤ kq ∧ Aside0 (impl_Fence.l (l.drop i) s0 acc = some (s1, l1)) ∧ Aside0 (w'.heap[g]? = some (.cells #[.string s0, .slice A l.length c, .int .i64 lf, .int .i64 cn] 111 (0, 0))) ∧ Aside0 (Kd.R k106 106 w' w.heap.size (fun _ => True) v acc) ∧ Aside0 (Kept w w' (fun k => k = g)) ∧ Aside0 (Below g w w'))
  case atStart => exact ⟨0, s, [], _, rfl, rfl, Nat.zero_le _, by omega, ⟨by simpa using H.out⟩, BKg, HO, KP, HB⟩
  case round =>
    clear H BKg HO KP HB
    obtain ⟨i, s0, acc, v, hv, rfl, hi, hk, H, BKg, HO, KP, HB⟩ := hrel
    have hv2 := hv.symm
    clear hv
    subst hv2
    have HBW := mK (show g ≤ wr.heap.size from Nat.le_of_lt (blk_lt BKg.out))
    have hil := HL.out
    by_cases ci : i < l.length
    · have h1 := H.out
      have ex : l.drop i = rd_T106 l i :: l.drop (i + 1) := by rw [List.drop_eq_getElem_cons ci]; simp [rd_T106, List.getD, ci]
      rw [ex] at h1
      unfold impl_Fence.l at h1
      obtain ⟨ad, ea, hx0, hx1, hx2⟩ := at_T106 HC.out (i : Int) (by omega) (by omega)
      cases ea
      have nad := HNE.out ad rfl (by omega)
      replace hx0 := cell_kept hx0 KP.out (by show ¬ (ad.add _).block = g; rw [add_block]; exact nad)
      replace hx1 := cell_kept hx1 KP.out (by show ¬ (ad.add _).block = g; rw [add_block]; exact nad)
      replace hx2 := cell_kept hx2 KP.out (by show ¬ (ad.add _).block = g; rw [add_block]; exact nad)
      simp only [Int.toNat_natCast] at hx0 hx1 hx2
      generalize rd_T106 l (i : Int) = x at *
      obtain ⟨xa, xd, xs⟩ := x
      simp only at *
      obtain ⟨s2, hs2, h2⟩ := Option.bind_eq_some_iff.mp h1
      have hcg0 : wr.cell? ⟨g, 0, none⟩ = some (.string s0) := (bC BKg.out 0).trans rfl
      unfold impl_Fence.safe at hs2
      clear h1 H ex
      by_cases ce : xs.toList = ([] : List UInt8)
      · rw [if_pos ce] at hs2
        obtain rfl := Option.some.inj hs2
        have e1 : (xs.toList == ([] : List UInt8)) = true := beq_iff_eq.mpr ce
        have e2 : (xs.toList != ([] : List UInt8)) = false := bne_eq_false_iff_eq.mpr ce
        have e3 : xs.toList.isEmpty = true := by simpa using ce
        clear ce hs2
        by_cases cd : xs.toList = xd.toList
        · rw [if_pos cd] at h2
          have H3 := mK h2
          have e4 : (xs.toList != xd.toList) = false := bne_eq_false_iff_eq.mpr cd
          have e5 : (xs.toList == xd.toList) = true := beq_iff_eq.mpr cd
          clear cd h2
          go_wp2_with (first | ((with_reducible refine gate_dst (N := 4) rfl ?_); refine box_event ?hg (N := 4) ?hd (cs := #[.int .i64 0, .string (⟨#[]⟩ : ByteArray), .string (⟨#[]⟩ : ByteArray)]) (t := 106) ?hr ?_; (case hd => rfl); (case hg => rfl); (case hr => first | (go_simp; done) | (go_simp; rfl)); intro gl hg w6 hbox hb; have n0_ := mK (impl_Fence.bstep HB.out hb HBW.out); have n1_ := mK (bB BKg.out hb); have n2_ := mK (KP.out.below hb); have n5_ := mK (rB HO.out hb); have GEl := mK (by rw [hg]; exact KP.out.1 : w.heap.size ≤ gl); have LTl := mK (by rw [hg]; exact blk_lt BKg.out : g < gl); have NOV := mK (show ∀ k, v.ownBlock = some k → k ≠ gl by intro k hk; rw [hg]; exact Nat.ne_of_lt (Kd.R_lt HO.out k hk)); have BKl := mK hbox; clear HB BKg KP HO hcg0; have HB := n0_; have BKg := n1_; have KP := n2_; have HO := n5_; clear n0_ n1_ n2_ n5_ hbox hg; replace hx0 := (hb.cell (World.block_lt_of_cell? wr _ hx0)).trans hx0; replace hx1 := (hb.cell (World.block_lt_of_cell? wr _ hx1)).trans hx1; replace hx2 := (hb.cell (World.block_lt_of_cell? wr _ hx2)).trans hx2; clear hb; have hcg0 : w6.cell? ⟨g, 0, none⟩ = some (.string s0) := (bC BKg.out 0).trans rfl; have hfg0 := bF BKg.out 0; have NGl := Nat.ne_of_lt LTl.out; have NGl2 := NGl.symm; have hcl0 : w6.cell? ⟨gl, 0, none⟩ = some (.int .i64 0) := (bC BKl.out 0).trans rfl; have hcl1 : w6.cell? ⟨gl, 1, none⟩ = some (.string (⟨#[]⟩ : ByteArray)) := (bC BKl.out 1).trans rfl; have hcl2 : w6.cell? ⟨gl, 2, none⟩ = some (.string (⟨#[]⟩ : ByteArray)) := (bC BKl.out 2).trans rfl; have hfl0 := bF BKl.out 0; have hfl1 := bF BKl.out 1; have hfl2 := bF BKl.out 2))
          go_roundg (l.length - (i + 1))
          case measure => omega
          case rel => exact ⟨i + 1, _, acc, v, by first | rfl | (simp; done), by first | rfl | (simp; done), by omega, by omega, ⟨H3.out⟩, ⟨by (with_reducible repeat (first | exact BKg.out | refine blk_far ?_ NGl _))⟩, ⟨by (with_reducible repeat (first | exact HO.out | refine impl_Fence.rfar ?_ NOV.out _))⟩, ⟨Kept.setCell (Kept.setCell (Kept.setCell KP.out (p := ⟨gl, 0, none⟩) (.inr GEl.out) _) (p := ⟨gl, 1, none⟩) (.inr GEl.out) _) (p := ⟨gl, 2, none⟩) (.inr GEl.out) _⟩, ⟨Below.setCell (p := ⟨gl, 2, none⟩) (Below.setCell (p := ⟨gl, 1, none⟩) (Below.setCell (p := ⟨gl, 0, none⟩) HB.out (Nat.le_of_lt LTl.out) _) (Nat.le_of_lt LTl.out) _) (Nat.le_of_lt LTl.out) _⟩⟩
        · rw [if_neg cd] at h2
          by_cases cl : acc.length < 3518437208880
          · rw [if_pos cl] at h2
            obtain ⟨L8, hL8⟩ : ∃ L : List S106, L = acc ++ [⟨xa, xd, (⟨#[]⟩ : ByteArray)⟩] := ⟨_, rfl⟩
            rw [← hL8] at h2
            have NL8 := mK hL8
            have H3 := mK h2
            have LM := mK cl
            have e4 : (xs.toList != xd.toList) = true := bne_iff_ne.mpr cd
            have e5 : (xs.toList == xd.toList) = false := beq_eq_false_iff_ne.mpr cd
            clear cd h2 hL8 cl
            obtain ⟨Av, cv, ev⟩ := Kd.R_slice HO.out
            subst ev
            go_wp2_with (first | ((with_reducible refine gate_dst (N := 4) rfl ?_); refine box_event ?hg (N := 4) ?hd (cs := #[.int .i64 0, .string (⟨#[]⟩ : ByteArray), .string (⟨#[]⟩ : ByteArray)]) (t := 106) ?hr ?_; (case hd => rfl); (case hg => rfl); (case hr => first | (go_simp; done) | (go_simp; rfl)); intro gl hg w6 hbox hb; have n0_ := mK (impl_Fence.bstep HB.out hb HBW.out); have n1_ := mK (bB BKg.out hb); have n2_ := mK (KP.out.below hb); have n5_ := mK (rB HO.out hb); have GEl := mK (by rw [hg]; exact KP.out.1 : w.heap.size ≤ gl); have LTl := mK (by rw [hg]; exact blk_lt BKg.out : g < gl); have NOV := mK (show ∀ k, (.slice Av acc.length cv : Value).ownBlock = some k → k ≠ gl by intro k hk; rw [hg]; exact Nat.ne_of_lt (Kd.R_lt HO.out k hk)); have BKl := mK hbox; clear HB BKg KP HO hcg0; have HB := n0_; have BKg := n1_; have KP := n2_; have HO := n5_; clear n0_ n1_ n2_ n5_ hbox hg; replace hx0 := (hb.cell (World.block_lt_of_cell? wr _ hx0)).trans hx0; replace hx1 := (hb.cell (World.block_lt_of_cell? wr _ hx1)).trans hx1; replace hx2 := (hb.cell (World.block_lt_of_cell? wr _ hx2)).trans hx2; clear hb; have hcg0 : w6.cell? ⟨g, 0, none⟩ = some (.string s0) := (bC BKg.out 0).trans rfl; have hfg0 := bF BKg.out 0; have NGl := Nat.ne_of_lt LTl.out; have NGl2 := NGl.symm; have hcl0 : w6.cell? ⟨gl, 0, none⟩ = some (.int .i64 0) := (bC BKl.out 0).trans rfl; have hcl1 : w6.cell? ⟨gl, 1, none⟩ = some (.string (⟨#[]⟩ : ByteArray)) := (bC BKl.out 1).trans rfl; have hcl2 : w6.cell? ⟨gl, 2, none⟩ = some (.string (⟨#[]⟩ : ByteArray)) := (bC BKl.out 2).trans rfl; have hfl0 := bF BKl.out 0; have hfl1 := bF BKl.out 1; have hfl2 := bF BKl.out 2) | ((with_reducible refine gate_dst (N := 43) rfl ?_); refine impl_Fence.app k106 w.heap.size rfl (.tmp 36) (.tmp 42) 30 106 (.agg #[(.int .i64 0), (.string ⟨#[]⟩), (.string ⟨#[]⟩)]) 40 rfl Tryz.underlying30 info106 rfl (by decide) (by omega) (.slice Av acc.length cv) acc (⟨xa, xd, (⟨#[]⟩ : ByteArray)⟩ : S106) [.int .i64 xa, .string xd, .string (⟨#[]⟩ : ByteArray)] rfl (by first | (go_simp; done) | (go_simp; rfl)) ?aP ?aO ?aS ?aL ?_; (case aP => exact k106_mkM _ _ _ (⟨xa, xd, (⟨#[]⟩ : ByteArray)⟩ : S106)); (case aO => exact by (with_reducible repeat (first | exact HO.out | refine impl_Fence.rfar ?_ NOV.out _))); (case aS => have h_ := KP.out.1; simpa [World.setCell, World.drewN, World.drew] using h_); (case aL => have := LM.out; omega); intro v8 w8 ho8 hg8; rw [← NL8.out] at ho8; obtain ⟨A8, c8, e8⟩ := Kd.R_slice ho8; subst e8; have HG8 := mK hg8; have HO8 := mK ho8; clear hg8 ho8))
            have SZ8 := mK (impl_Fence.sz HG8.out (Kept.setCell (Kept.setCell (Kept.setCell KP.out (p := ⟨gl, 0, none⟩) (.inr GEl.out) _) (p := ⟨gl, 1, none⟩) (.inr GEl.out) _) (p := ⟨gl, 2, none⟩) (.inr GEl.out) _ : Kept w _ (fun k => k = g)))
            have BK8 := mK (blk_grown (o := .cells #[.string s0, .slice (some ad) l.length c, .int .i64 lf, .int .i64 cn] 111 (0, 0)) (by (with_reducible repeat (first | exact BKg.out | refine blk_far ?_ NGl _))) HG8.out (by have := Kd.R_ne HO.out BKg.out (by decide); exact this))
            have KP8 : Aside0 (Kept w w8 (fun k => k = g)) := mK (Kept.of_grown HG8.out (Kept.setCell (Kept.setCell (Kept.setCell KP.out (p := ⟨gl, 0, none⟩) (.inr GEl.out) _) (p := ⟨gl, 1, none⟩) (.inr GEl.out) _) (p := ⟨gl, 2, none⟩) (.inr GEl.out) _ : Kept w _ (fun k => k = g)) (fun k hk => .inr (Kd.R_base HO.out k hk)))
            have HB8 : Aside0 (Below g w w8) := mK (Below.grown (Below.setCell (p := ⟨gl, 2, none⟩) (Below.setCell (p := ⟨gl, 1, none⟩) (Below.setCell (p := ⟨gl, 0, none⟩) HB.out (Nat.le_of_lt LTl.out) _) (Nat.le_of_lt LTl.out) _) (Nat.le_of_lt LTl.out) _) HG8.out (Nat.le_trans (Nat.le_of_lt GLT.out) SZ8.out) (fun k hk => Nat.le_trans (Nat.le_of_lt GLT.out) (Kd.R_base HO.out k hk)))
            go_roundg (l.length - (i + 1))
            case measure => omega
            case rel => exact ⟨i + 1, _, L8, _, by first | rfl | (simp; done), by first | rfl | (simp; done), by omega, by omega, ⟨H3.out⟩, BK8, HO8, KP8, HB8⟩
          · rw [if_neg cl] at h2; cases h2
      · rw [if_neg ce] at hs2
        have e1 : (xs.toList == ([] : List UInt8)) = false := beq_eq_false_iff_ne.mpr ce
        have e2 : (xs.toList != ([] : List UInt8)) = true := bne_iff_ne.mpr ce
        have e3 : xs.toList.isEmpty = false := by simpa using ce
        have RP := mK hs2
        obtain ⟨aw, haw⟩ : ∃ aw, aw = wrap64 (64 * xa) := ⟨_, rfl⟩
        have q3 : IntKind.i64.wrap (64 * xa) = aw := by rw [i64_w]; exact haw.symm
        rw [← haw] at hs2
        clear RP
        have RP := mK hs2
        clear ce hs2 haw
        by_cases cd : xs.toList = xd.toList
        · rw [if_pos cd] at h2
          have H3 := mK h2
          have e4 : (xs.toList != xd.toList) = false := bne_eq_false_iff_eq.mpr cd
          have e5 : (xs.toList == xd.toList) = true := beq_iff_eq.mpr cd
          clear cd h2
          go_wp2_with (first | ((with_reducible refine gate_dst (N := 4) rfl ?_); refine box_event ?hg (N := 4) ?hd (cs := #[.int .i64 0, .string (⟨#[]⟩ : ByteArray), .string (⟨#[]⟩ : ByteArray)]) (t := 106) ?hr ?_; (case hd => rfl); (case hg => rfl); (case hr => first | (go_simp; done) | (go_simp; rfl)); intro gl hg w6 hbox hb; have n0_ := mK (impl_Fence.bstep HB.out hb HBW.out); have n1_ := mK (bB BKg.out hb); have n2_ := mK (KP.out.below hb); have n5_ := mK (rB HO.out hb); have GEl := mK (by rw [hg]; exact KP.out.1 : w.heap.size ≤ gl); have LTl := mK (by rw [hg]; exact blk_lt BKg.out : g < gl); have NOV := mK (show ∀ k, v.ownBlock = some k → k ≠ gl by intro k hk; rw [hg]; exact Nat.ne_of_lt (Kd.R_lt HO.out k hk)); have BKl := mK hbox; clear HB BKg KP HO hcg0; have HB := n0_; have BKg := n1_; have KP := n2_; have HO := n5_; clear n0_ n1_ n2_ n5_ hbox hg; replace hx0 := (hb.cell (World.block_lt_of_cell? wr _ hx0)).trans hx0; replace hx1 := (hb.cell (World.block_lt_of_cell? wr _ hx1)).trans hx1; replace hx2 := (hb.cell (World.block_lt_of_cell? wr _ hx2)).trans hx2; clear hb; have hcg0 : w6.cell? ⟨g, 0, none⟩ = some (.string s0) := (bC BKg.out 0).trans rfl; have hfg0 := bF BKg.out 0; have NGl := Nat.ne_of_lt LTl.out; have NGl2 := NGl.symm; have hcl0 : w6.cell? ⟨gl, 0, none⟩ = some (.int .i64 0) := (bC BKl.out 0).trans rfl; have hcl1 : w6.cell? ⟨gl, 1, none⟩ = some (.string (⟨#[]⟩ : ByteArray)) := (bC BKl.out 1).trans rfl; have hcl2 : w6.cell? ⟨gl, 2, none⟩ = some (.string (⟨#[]⟩ : ByteArray)) := (bC BKl.out 2).trans rfl; have hfl0 := bF BKl.out 0; have hfl1 := bF BKl.out 1; have hfl2 := bF BKl.out 2))
          go_region_law (refine goes_ Tryz.func158 (by kernel_rfl) rfl #[.string s0, .int .i64 aw, .string xs] (by simp [Region.wanted]) rfl rfl (by first | rfl | (simp [Act.eval, Act.put]; done)) ?_; (with_reducible refine (impl_replaced.calls s0 aw xs s2 _ RP.out).mono ?_); rintro e w9 ⟨rfl, ⟨nd, rfl⟩⟩; refine ⟨_, rfl, ?_⟩)
          all_goals
            go_wp2
            go_roundg (l.length - (i + 1))
            case measure => omega
            case rel => exact ⟨i + 1, _, acc, v, by first | rfl | (simp; done), by first | rfl | (simp; done), by omega, by omega, ⟨H3.out⟩, ⟨blk_put (cs := #[.string s0, .slice (some ad) l.length c, .int .i64 lf, .int .i64 cn]) (by (with_reducible repeat (first | exact BKg.out | refine bN ?_ _ | refine bD ?_ | refine blk_far ?_ NGl _))) 0 _ rfl⟩, ⟨impl_Fence.rfar (by (with_reducible repeat (first | exact HO.out | apply Kd.R_drewN | apply rD | refine impl_Fence.rfar ?_ NOV.out _))) (fun k hk e_ => Kd.R_ne HO.out BKg.out (by decide) (by rw [hk, e_])) _⟩, ⟨Kept.setCell (p := ⟨g, 0, none⟩) (Kept.drewN (Kept.setCell (Kept.setCell (Kept.setCell KP.out (p := ⟨gl, 0, none⟩) (.inr GEl.out) _) (p := ⟨gl, 1, none⟩) (.inr GEl.out) _) (p := ⟨gl, 2, none⟩) (.inr GEl.out) _) _) (.inl rfl) _⟩, ⟨Below.setCell (p := ⟨g, 0, none⟩) (lN (Below.setCell (p := ⟨gl, 2, none⟩) (Below.setCell (p := ⟨gl, 1, none⟩) (Below.setCell (p := ⟨gl, 0, none⟩) HB.out (Nat.le_of_lt LTl.out) _) (Nat.le_of_lt LTl.out) _) (Nat.le_of_lt LTl.out) _) _) (Nat.le_refl _) _⟩⟩
        · rw [if_neg cd] at h2
          by_cases cl : acc.length < 3518437208880
          · rw [if_pos cl] at h2
            obtain ⟨L8, hL8⟩ : ∃ L : List S106, L = acc ++ [⟨xa, xd, (⟨#[]⟩ : ByteArray)⟩] := ⟨_, rfl⟩
            rw [← hL8] at h2
            have NL8 := mK hL8
            have H3 := mK h2
            have LM := mK cl
            have e4 : (xs.toList != xd.toList) = true := bne_iff_ne.mpr cd
            have e5 : (xs.toList == xd.toList) = false := beq_eq_false_iff_ne.mpr cd
            clear cd h2 hL8 cl
            obtain ⟨Av, cv, ev⟩ := Kd.R_slice HO.out
            subst ev
            go_wp2_with (first | ((with_reducible refine gate_dst (N := 4) rfl ?_); refine box_event ?hg (N := 4) ?hd (cs := #[.int .i64 0, .string (⟨#[]⟩ : ByteArray), .string (⟨#[]⟩ : ByteArray)]) (t := 106) ?hr ?_; (case hd => rfl); (case hg => rfl); (case hr => first | (go_simp; done) | (go_simp; rfl)); intro gl hg w6 hbox hb; have n0_ := mK (impl_Fence.bstep HB.out hb HBW.out); have n1_ := mK (bB BKg.out hb); have n2_ := mK (KP.out.below hb); have n5_ := mK (rB HO.out hb); have GEl := mK (by rw [hg]; exact KP.out.1 : w.heap.size ≤ gl); have LTl := mK (by rw [hg]; exact blk_lt BKg.out : g < gl); have NOV := mK (show ∀ k, (.slice Av acc.length cv : Value).ownBlock = some k → k ≠ gl by intro k hk; rw [hg]; exact Nat.ne_of_lt (Kd.R_lt HO.out k hk)); have BKl := mK hbox; clear HB BKg KP HO hcg0; have HB := n0_; have BKg := n1_; have KP := n2_; have HO := n5_; clear n0_ n1_ n2_ n5_ hbox hg; replace hx0 := (hb.cell (World.block_lt_of_cell? wr _ hx0)).trans hx0; replace hx1 := (hb.cell (World.block_lt_of_cell? wr _ hx1)).trans hx1; replace hx2 := (hb.cell (World.block_lt_of_cell? wr _ hx2)).trans hx2; clear hb; have hcg0 : w6.cell? ⟨g, 0, none⟩ = some (.string s0) := (bC BKg.out 0).trans rfl; have hfg0 := bF BKg.out 0; have NGl := Nat.ne_of_lt LTl.out; have NGl2 := NGl.symm; have hcl0 : w6.cell? ⟨gl, 0, none⟩ = some (.int .i64 0) := (bC BKl.out 0).trans rfl; have hcl1 : w6.cell? ⟨gl, 1, none⟩ = some (.string (⟨#[]⟩ : ByteArray)) := (bC BKl.out 1).trans rfl; have hcl2 : w6.cell? ⟨gl, 2, none⟩ = some (.string (⟨#[]⟩ : ByteArray)) := (bC BKl.out 2).trans rfl; have hfl0 := bF BKl.out 0; have hfl1 := bF BKl.out 1; have hfl2 := bF BKl.out 2))
            go_region_law (refine goes_ Tryz.func158 (by kernel_rfl) rfl #[.string s0, .int .i64 aw, .string xs] (by simp [Region.wanted]) rfl rfl (by first | rfl | (simp [Act.eval, Act.put]; done)) ?_; (with_reducible refine (impl_replaced.calls s0 aw xs s2 _ RP.out).mono ?_); rintro e w9 ⟨rfl, ⟨nd, rfl⟩⟩; refine ⟨_, rfl, ?_⟩)
            all_goals
              go_wp2_with (first | ((with_reducible refine gate_dst (N := 43) rfl ?_); refine impl_Fence.app k106 w.heap.size rfl (.tmp 36) (.tmp 42) 30 106 (.agg #[(.int .i64 0), (.string ⟨#[]⟩), (.string ⟨#[]⟩)]) 40 rfl Tryz.underlying30 info106 rfl (by decide) (by omega) (.slice Av acc.length cv) acc (⟨xa, xd, (⟨#[]⟩ : ByteArray)⟩ : S106) [.int .i64 xa, .string xd, .string (⟨#[]⟩ : ByteArray)] rfl (by first | (go_simp; done) | (go_simp; rfl)) ?aP ?aO ?aS ?aL ?_; (case aP => exact k106_mkM _ _ _ (⟨xa, xd, (⟨#[]⟩ : ByteArray)⟩ : S106)); (case aO => exact impl_Fence.rfar (by (with_reducible repeat (first | exact HO.out | apply Kd.R_drewN | apply rD | refine impl_Fence.rfar ?_ NOV.out _))) (fun k hk e_ => Kd.R_ne HO.out BKg.out (by decide) (by rw [hk, e_])) _); (case aS => have h_ := KP.out.1; simpa [World.setCell, World.drewN, World.drew] using h_); (case aL => have := LM.out; omega); intro v8 w8 ho8 hg8; rw [← NL8.out] at ho8; obtain ⟨A8, c8, e8⟩ := Kd.R_slice ho8; subst e8; have HG8 := mK hg8; have HO8 := mK ho8; clear hg8 ho8))
              have SZ8 := mK (impl_Fence.sz HG8.out (Kept.setCell (p := ⟨g, 0, none⟩) (Kept.drewN (Kept.setCell (Kept.setCell (Kept.setCell KP.out (p := ⟨gl, 0, none⟩) (.inr GEl.out) _) (p := ⟨gl, 1, none⟩) (.inr GEl.out) _) (p := ⟨gl, 2, none⟩) (.inr GEl.out) _) _) (.inl rfl) _ : Kept w _ (fun k => k = g)))
              have BK8 := mK (blk_grown (o := .cells #[.string s2, .slice (some ad) l.length c, .int .i64 lf, .int .i64 cn] 111 (0, 0)) (blk_put (cs := #[.string s0, .slice (some ad) l.length c, .int .i64 lf, .int .i64 cn]) (by (with_reducible repeat (first | exact BKg.out | refine bN ?_ _ | refine bD ?_ | refine blk_far ?_ NGl _))) 0 _ rfl) HG8.out (by have := Kd.R_ne HO.out BKg.out (by decide); exact this))
              have KP8 : Aside0 (Kept w w8 (fun k => k = g)) := mK (Kept.of_grown HG8.out (Kept.setCell (p := ⟨g, 0, none⟩) (Kept.drewN (Kept.setCell (Kept.setCell (Kept.setCell KP.out (p := ⟨gl, 0, none⟩) (.inr GEl.out) _) (p := ⟨gl, 1, none⟩) (.inr GEl.out) _) (p := ⟨gl, 2, none⟩) (.inr GEl.out) _) _) (.inl rfl) _ : Kept w _ (fun k => k = g)) (fun k hk => .inr (Kd.R_base HO.out k hk)))
              have HB8 : Aside0 (Below g w w8) := mK (Below.grown (Below.setCell (p := ⟨g, 0, none⟩) (lN (Below.setCell (p := ⟨gl, 2, none⟩) (Below.setCell (p := ⟨gl, 1, none⟩) (Below.setCell (p := ⟨gl, 0, none⟩) HB.out (Nat.le_of_lt LTl.out) _) (Nat.le_of_lt LTl.out) _) (Nat.le_of_lt LTl.out) _) _) (Nat.le_refl _) _) HG8.out (Nat.le_trans (Nat.le_of_lt GLT.out) SZ8.out) (fun k hk => Nat.le_trans (Nat.le_of_lt GLT.out) (Kd.R_base HO.out k hk)))
              go_roundg (l.length - (i + 1))
              case measure => omega
              case rel => exact ⟨i + 1, _, L8, _, by first | rfl | (simp; done), by first | rfl | (simp; done), by omega, by omega, ⟨H3.out⟩, BK8, HO8, KP8, HB8⟩
          · rw [if_neg cl] at h2; cases h2
    · have h1 := H.out
      rw [List.drop_of_length_le (by omega)] at h1
      unfold impl_Fence.l at h1
      obtain ⟨rfl, rfl⟩ := Prod.mk.inj (Option.some.inj h1)
      have hin : i = l.length := by omega
      subst hin
      clear ci h1
      have hcg0 : wr.cell? ⟨g, 0, none⟩ = some (.string s0) := (bC BKg.out 0).trans rfl
      have hcg1 : wr.cell? ⟨g, 1, none⟩ = some (.slice A l.length c) := (bC BKg.out 1).trans rfl
      have hfg1 := bF BKg.out 1
      obtain ⟨Av, cv, ev⟩ := Kd.R_slice HO.out
      subst ev
      go_wp2
      go_end0
      exact ⟨rfl, _, blk_put BKg.out 1 _ rfl, impl_Fence.rfar HO.out (fun k hk e_ => Kd.R_ne HO.out BKg.out (by decide) (by rw [hk, e_])) _, KP.out.setCell (.inl rfl) _, HB.out.setCell (p := ⟨g, 1, none⟩) (Nat.le_refl _) _⟩
def impl_machine.storeF (s : ByteArray) (l : List S106) (a : Int) (t : ByteArray) : Option (List S106) := (impl_Device_find.f s l (wrap64 (Int.tdiv a 64))).bind fun q => (impl_Store.ins s l (wrap64 (Int.tdiv a 64)) q.1 q.2).bind fun L => impl_Store.fin L (Int.tmod a 64) t q.1
def impl_machine.flushF (s : ByteArray) (l : List S106) (y : Int) : Option (List S106) := (impl_Device_find.f s l y).bind fun q => some (impl_Flush.put l q.1 q.2)
def impl_machine.syncF (s : ByteArray) (l : List S106) (y : Int) (t : ByteArray) : Option (ByteArray × List S106) := (impl_machine.storeF s l (wrap64 (64 * y)) t).bind fun L => (impl_machine.flushF s L y).bind fun L2 => impl_Fence.l L2 s []
def impl_machine.St (w0 : World) (base g : Nat) (s : ByteArray) (A : Option Addr) (c : Nat) (l : List S106) (w : World) : Prop := (∃ cn : Int, w.heap[g]? = some (.cells #[.string s, .slice A l.length c, .int .i64 (-1), .int .i64 cn] 111 (0, 0))) ∧ Kd.R k106 106 w base (fun k => k ≠ g) (.slice A l.length c) l ∧ Below base w0 w ∧ base ≤ g ∧ base ≤ w.heap.size
theorem impl_machine.St.drewN {w0 w : World} {base g c : Nat} {s : ByteArray} {A : Option Addr} {l : List S106} (h : impl_machine.St w0 base g s A c l w) (n : Nat) : impl_machine.St w0 base g s A c l (w.drewN n) := by
  obtain ⟨⟨cn, h1⟩, h2, h3, h4, h5⟩ := h
  exact ⟨⟨cn, bN h1 n⟩, Kd.R_drewN h2 n, lN h3 n, h4, h5⟩
theorem impl_machine.St.below {w0 w w1 : World} {base g c : Nat} {s : ByteArray} {A : Option Addr} {l : List S106} (h : impl_machine.St w0 base g s A c l w) (hb : Below w.heap.size w w1) : impl_machine.St w0 base g s A c l w1 := by
  obtain ⟨⟨cn, h1⟩, h2, h3, h4, h5⟩ := h
  exact ⟨⟨cn, bB h1 hb⟩, rB h2 hb, h3.trans (hb.mono h5), h4, Nat.le_trans h5 hb.size⟩
def impl_machine.stepped (w : World) (g : Nat) (cn : Int) : World := (w.setCell ⟨g, 2, none⟩ (.int .i64 (-1))).setCell ⟨g, 3, none⟩ (.int .i64 cn)
theorem impl_machine.step (g : Nat) (s : ByteArray) (v : Value) (cn : Int) (w : World) (hbk : w.heap[g]? = some (.cells #[.string s, v, .int .i64 (-1), .int .i64 cn] 111 (0, 0))) :
    Calls Tryz.prog 134 #[.pointer (some ⟨g, 0, none⟩)] w fun e w' => e = .returned (.tuple #[]) ∧ ∃ cn' : Int, w' = impl_machine.stepped w g cn' := by
  have hu111 := Tryz.underlying111
  have h2 : w.cell? ⟨g, 2, none⟩ = some (.int .i64 (-1)) := (bC hbk 2).trans rfl
  have h3 : w.cell? ⟨g, 3, none⟩ = some (.int .i64 cn) := (bC hbk 3).trans rfl
  have f2 := bF hbk 2
  have f3 := bF hbk 3
  clear hbk
  go_enter Tryz.func134, Tryz.ntmps134
  go_wp2
  go_end0
  exact ⟨rfl, _, rfl⟩
theorem impl_machine.St.step {w0 w : World} {base g c : Nat} {s : ByteArray} {A : Option Addr} {l : List S106} (h : impl_machine.St w0 base g s A c l w) (cn : Int) : impl_machine.St w0 base g s A c l (impl_machine.stepped w g cn) ∧ (impl_machine.stepped w g cn).heap.size = w.heap.size ∧ ∀ k, k ≠ g → (impl_machine.stepped w g cn).heap[k]? = w.heap[k]? := by
  obtain ⟨⟨c0, h1⟩, h2, h3, h4, h5⟩ := h
  refine ⟨⟨⟨cn, ?_⟩, ?_, ?_, h4, ?_⟩, ?_, fun k hk => ?_⟩
  · exact blk_put (cs := #[.string s, .slice A l.length c, .int .i64 (-1), .int .i64 c0]) (blk_put (cs := #[.string s, .slice A l.length c, .int .i64 (-1), .int .i64 c0]) h1 2 _ rfl) 3 _ rfl
  · exact Kd.R_far (p := ⟨g, 3, none⟩) (Kd.R_far (p := ⟨g, 2, none⟩) h2 (fun _ hk => hk) _) (fun _ hk => hk) _
  · exact (h3.setCell (p := ⟨g, 2, none⟩) h4 _).setCell (p := ⟨g, 3, none⟩) h4 _
  · simpa [impl_machine.stepped, World.setCell] using h5
  · simp [impl_machine.stepped, World.setCell]
  · exact (Below.heap_setCell _ ⟨g, 3, none⟩ _ k hk).trans (Below.heap_setCell _ ⟨g, 2, none⟩ _ k hk)
theorem impl_machine.dflush (w0 : World) (base g : Nat) (s : ByteArray) (A : Option Addr) (c : Nat) (l : List S106) (y i : Int) (b : Bool) (w : World) (h : impl_machine.St w0 base g s A c l w) (hq : impl_Device_find.f s l y = some (i, b)) :
    Calls Tryz.prog 135 #[.pointer (some ⟨g, 0, none⟩), .int .i64 y] w fun e w' => e = .returned (.tuple #[]) ∧ impl_machine.St w0 base g s A c (impl_Flush.put l i b) w' ∧ w.heap.size ≤ w'.heap.size ∧ ∀ k, k < w.heap.size → some k ≠ (Value.slice A l.length c).ownBlock → w'.heap[k]? = w.heap[k]? := by
  obtain ⟨⟨cn, h1⟩, h2, h3, h4, h5⟩ := h
  have LE : (impl_Flush.put l i b).length = l.length := by unfold impl_Flush.put; split <;> simp
  refine (impl_Flush.flush (-1) cn base g (fun k => k ≠ g) s A c l y i b w0 w h1 h2 (fun _ hk => hk) h3 h5 hq).mono ?_
  rintro e w' ⟨rfl, q1, q2, q3, q4, q5⟩
  exact ⟨rfl, ⟨⟨cn, by rw [LE]; exact q1⟩, by rw [LE]; exact q2, q3, h4, Nat.le_trans h5 q4⟩, q4, q5⟩
theorem impl_machine.dstore (w0 : World) (base g : Nat) (s : ByteArray) (A : Option Addr) (c : Nat) (l L1 L : List S106) (a i : Int) (b : Bool) (t : ByteArray) (w : World) (h : impl_machine.St w0 base g s A c l w) (hq : impl_Device_find.f s l (wrap64 (Int.tdiv a 64)) = some (i, b)) (hi : impl_Store.ins s l (wrap64 (Int.tdiv a 64)) i b = some L1) (hfi : impl_Store.fin L1 (Int.tmod a 64) t i = some L) :
    Calls Tryz.prog 138 #[.pointer (some ⟨g, 0, none⟩), .int .i64 a, .string t] w fun e w' => e = .returned (.tuple #[]) ∧ ∃ A' c', impl_machine.St w0 base g s A' c' L w' := by
  obtain ⟨⟨cn, h1⟩, h2, h3, h4, h5⟩ := h
  refine (impl_Store.store (-1) cn base g (fun k => k ≠ g) s A c l a _ _ t i b L1 L w0 w rfl rfl h1 h2 (fun _ hk => hk) (fun k hk => by have := blk_lt h1; omega) h3 h5 h4 hq hi hfi).mono ?_
  rintro e w' ⟨rfl, v', q1, q2, q3, q4, -⟩
  obtain ⟨A', c', rfl⟩ := Kd.R_slice q2
  exact ⟨rfl, A', c', ⟨cn, q1⟩, q2, q3, h4, Nat.le_trans h5 q4⟩
theorem impl_machine.dfence (w0 : World) (base g : Nat) (s : ByteArray) (A : Option Addr) (c : Nat) (l : List S106) (s1 : ByteArray) (l1 : List S106) (w : World) (h : impl_machine.St w0 base g s A c l w) (hf : impl_Fence.l l s [] = some (s1, l1)) :
    Calls Tryz.prog 136 #[.pointer (some ⟨g, 0, none⟩)] w fun e w' => e = .returned (.tuple #[]) ∧ ∃ A' c', impl_machine.St w0 base g s1 A' c' l1 w' := by
  obtain ⟨⟨cn, h1⟩, h2, h3, h4, h5⟩ := h
  refine (impl_Fence.fence (-1) cn g s A c l s1 l1 w h1 (rR h2).2.2 (fun ad e h0 => h2.1 ad.block (by
      obtain ⟨go, cap, eo, _⟩ := Kd.R_form h2 h0
      obtain ⟨e1, -, -⟩ := Value.slice.inj eo
      rw [e] at e1
      obtain rfl := Option.some.inj e1
      rw [e]; rfl)) hf).mono ?_
  rintro e w' ⟨rfl, v', q1, q2, q3, q4⟩
  obtain ⟨A', c', rfl⟩ := Kd.R_slice q2
  exact ⟨rfl, A', c', ⟨cn, q1⟩, rL (rM (Kd.R_bound q2) (fun k hk => by have := hk.2.1; have := blk_lt h1; omega)) h5, h3.trans (q4.mono h4), h4, Nat.le_trans h5 q3.1⟩
theorem impl_machine.flush (w0 : World) (base g : Nat) (s : ByteArray) (A : Option Addr) (c : Nat) (l L : List S106) (y : Int) (w : World) (h : impl_machine.St w0 base g s A c l w) (hf : impl_machine.flushF s l y = some L) :
    Calls Tryz.prog 91 #[.pointer (some ⟨g, 0, none⟩), .int .i64 y] w fun e w' => e = .returned (.tuple #[]) ∧ impl_machine.St w0 base g s A c L w' ∧ L.length = l.length ∧ w.heap.size ≤ w'.heap.size ∧ ∀ k, k < w.heap.size → k ≠ g → some k ≠ (Value.slice A l.length c).ownBlock → w'.heap[k]? = w.heap[k]? := by
  unfold impl_machine.flushF at hf
  obtain ⟨⟨i, b⟩, hq, hf⟩ := Option.bind_eq_some_iff.mp hf
  obtain rfl := Option.some.inj hf
  clear hf
  have hu111 := Tryz.underlying111
  obtain ⟨cn, hbk⟩ := h.1
  have ST := mK (fun w' cn' (e : w' = impl_machine.stepped w g cn') => e ▸ h.step cn')
  have N1 := mK (impl_machine.step g s _ cn w hbk)
  have N2 := mK (fun W (hW : impl_machine.St w0 base g s A c l W) => impl_machine.dflush w0 base g s A c l y i b W hW hq)
  have LE := mK (show (impl_Flush.put l i b).length = l.length by unfold impl_Flush.put; split <;> simp)
  generalize impl_Flush.put l i b = L at N2 LE ⊢
  clear hbk h hq
  go_enter Tryz.func91, Tryz.ntmps91
  go_wp2_with (first | (go_at_call 134; (refine (N1.out).mono ?_); rintro e w1 ⟨rfl, cn', hs⟩; have T := mK (ST.out _ _ hs); clear ST hs) | (go_at_call 135; (refine (N2.out _ T.out.1).mono ?_); rintro e w2 ⟨rfl, hbo, hsz, hoth⟩; have U := mK (And.intro hbo (And.intro hsz hoth)); clear hbo hsz hoth))
  go_end0
  obtain ⟨hbo, hsz, hoth⟩ := U.out
  obtain ⟨t1, t2, t3⟩ := T.out
  exact ⟨rfl, hbo, LE.out, by omega, fun k hk hg hn => (hoth k (by omega) hn).trans (t3 k hg)⟩
theorem impl_machine.store (w0 : World) (base g : Nat) (s : ByteArray) (A : Option Addr) (c : Nat) (l L : List S106) (a : Int) (t : ByteArray) (w : World) (h : impl_machine.St w0 base g s A c l w) (hf : impl_machine.storeF s l a t = some L) :
    Calls Tryz.prog 102 #[.pointer (some ⟨g, 0, none⟩), .int .i64 a, .string t] w fun e w' => e = .returned (.tuple #[]) ∧ ∃ A' c', impl_machine.St w0 base g s A' c' L w' := by
  unfold impl_machine.storeF at hf
  obtain ⟨⟨i, b⟩, hq, hf⟩ := Option.bind_eq_some_iff.mp hf
  obtain ⟨L1, hi, hfi⟩ := Option.bind_eq_some_iff.mp hf
  clear hf
  have hu111 := Tryz.underlying111
  obtain ⟨cn, hbk⟩ := h.1
  have ST := mK (fun w' cn' (e : w' = impl_machine.stepped w g cn') => e ▸ h.step cn')
  have N1 := mK (impl_machine.step g s _ cn w hbk)
  have N2 := mK (fun W (hW : impl_machine.St w0 base g s A c l W) => impl_machine.dstore w0 base g s A c l L1 L a i b t W hW hq hi hfi)
  clear hbk h hq hi hfi
  go_enter Tryz.func102, Tryz.ntmps102
  go_wp2_with (first | (go_at_call 134; (refine (N1.out).mono ?_); rintro e w1 ⟨rfl, cn', hs⟩; have T := mK (ST.out _ _ hs); clear ST hs) | (go_at_call 138; (refine (N2.out _ T.out.1).mono ?_); rintro e w2 ⟨rfl, A', c', hs⟩; have U := mK hs; clear hs))
  go_end0
  exact ⟨rfl, _, _, U.out⟩
theorem impl_machine.fence (w0 : World) (base g : Nat) (s : ByteArray) (A : Option Addr) (c : Nat) (l : List S106) (s1 : ByteArray) (l1 : List S106) (w : World) (h : impl_machine.St w0 base g s A c l w) (hf : impl_Fence.l l s [] = some (s1, l1)) :
    Calls Tryz.prog 92 #[.pointer (some ⟨g, 0, none⟩)] w fun e w' => e = .returned (.tuple #[]) ∧ ∃ A' c', impl_machine.St w0 base g s1 A' c' l1 w' := by
  have hu111 := Tryz.underlying111
  obtain ⟨cn, hbk⟩ := h.1
  have ST := mK (fun w' cn' (e : w' = impl_machine.stepped w g cn') => e ▸ h.step cn')
  have N1 := mK (impl_machine.step g s _ cn w hbk)
  have N2 := mK (fun W (hW : impl_machine.St w0 base g s A c l W) => impl_machine.dfence w0 base g s A c l s1 l1 W hW hf)
  clear hbk h hf
  go_enter Tryz.func92, Tryz.ntmps92
  go_wp2_with (first | (go_at_call 134; (refine (N1.out).mono ?_); rintro e w1 ⟨rfl, cn', hs⟩; have T := mK (ST.out _ _ hs); clear ST hs) | (go_at_call 136; (refine (N2.out _ T.out.1).mono ?_); rintro e w2 ⟨rfl, A', c', hs⟩; have U := mK hs; clear hs))
  go_end0
  exact ⟨rfl, _, _, U.out⟩
theorem impl_machine.sync (w0 : World) (base g : Nat) (s : ByteArray) (A : Option Addr) (c : Nat) (l : List S106) (y : Int) (t : ByteArray) (s1 : ByteArray) (l1 : List S106) (w : World) (h : impl_machine.St w0 base g s A c l w) (hf : impl_machine.syncF s l y t = some (s1, l1)) :
    Calls Tryz.prog 93 #[.pointer (some ⟨g, 0, none⟩), .int .i64 y, .string t] w fun e w' => e = .returned (.tuple #[]) ∧ ∃ A' c', impl_machine.St w0 base g s1 A' c' l1 w' := by
  unfold impl_machine.syncF at hf
  obtain ⟨L, h1, hf⟩ := Option.bind_eq_some_iff.mp hf
  obtain ⟨L2, h2, h3⟩ := Option.bind_eq_some_iff.mp hf
  clear hf
  obtain ⟨aw, haw⟩ : ∃ aw, aw = wrap64 (64 * y) := ⟨_, rfl⟩
  have q3 : IntKind.i64.wrap (64 * y) = aw := by rw [i64_w]; exact haw.symm
  rw [← haw] at h1
  clear haw
  have N1 := mK (impl_machine.store w0 base g s A c l L aw t w h h1)
  have N2 := mK (fun W A c (hW : impl_machine.St w0 base g s A c L W) => impl_machine.flush w0 base g s A c L L2 y W hW h2)
  have N3 := mK (fun W A c (hW : impl_machine.St w0 base g s A c L2 W) => impl_machine.fence w0 base g s A c L2 s1 l1 W hW h3)
  clear h h1 h2 h3
  go_enter Tryz.func93, Tryz.ntmps93
  go_wp2_with (first | (go_at_call 102; (refine (N1.out).mono ?_); rintro e w1 ⟨rfl, A1, c1, hs⟩; have T := mK hs; clear hs) | (go_at_call 91; (refine (N2.out _ _ _ T.out).mono ?_); rintro e w2 ⟨rfl, hs, hl, hz, hoth⟩; have U := mK hs; clear hs hl hz hoth) | (go_at_call 92; (refine (N3.out _ _ _ U.out).mono ?_); rintro e w3 ⟨rfl, A3, c3, hs⟩; have V := mK hs; clear hs))
  go_end0
  exact ⟨rfl, _, _, V.out⟩
theorem impl_machine.new (s : ByteArray) (A : Option Addr) (c : Nat) (l : List S106) (s2 : ByteArray) (l2 : List S106) (w w0 : World) (base : Nat) (hb0 : Below base w0 w) (hbase : base ≤ w.heap.size) (hC : Kd.C k106 w A l.length l) (hc : l.length ≤ c) (ho : impl_Device_own.f s l = some (s2, l2)) :
    Calls Tryz.prog 40 #[.agg #[.string s, .slice A l.length c], .int .i64 (-1)] w fun e w' => ∃ g, e = .returned (.pointer (some ⟨g, 0, none⟩)) ∧ ∃ A' c', impl_machine.St w0 base g s2 A' c' l2 w' := by
  have hu111 := Tryz.underlying111
  have hu32 := Tryz.underlying32
  have N1 := mK (fun W (hb : Below w.heap.size w W) => impl_Device_own.calls s A c l s2 l2 W (cB hC hb) hc ho)
  have HB := mK (Below.refl w.heap.size w)
  have HB0 := mK hb0
  have HBS := mK hbase
  clear hC hc ho hb0 hbase
  go_enter Tryz.func40, Tryz.ntmps40
  go_wp2_with (first | ((with_reducible refine gate_dst (N := 2) rfl ?_); refine box_event ?hg (N := 2) ?hd (cs := #[.string s, .slice A l.length c]) (t := 32) ?hr ?_; (case hd => rfl); (case hg => rfl); (case hr => first | (go_simp; done) | (go_simp; rfl)); intro gd hg w1 hbox hb; have n0_ := mK (lT HB.out hb); have BK := mK hbox; clear HB; have HB := n0_; have hcz0 : w1.cell? ⟨gd, 0, none⟩ = some (.string s) := (bC BK.out 0).trans rfl; have hcz1 : w1.cell? ⟨gd, 1, none⟩ = some (.slice A l.length c) := (bC BK.out 1).trans rfl; clear n0_ hb hbox hg) | (go_at_call 89; (refine (N1.out _ HB.out).mono ?_); rintro e w2 ⟨v1, rfl, hro, hb⟩; have RO := mK hro; have n0_ := mK (lT HB.out hb); have SZ := mK (below_size HB.out); clear HB; have HB := n0_; clear n0_ hb hro) | ((with_reducible refine gate_dst (N := 10) rfl ?_); refine box_event ?hg (N := 10) ?hd (cs := #[.string s2, v1, .int .i64 (-1), .int .i64 0]) (t := 111) ?hr ?_; (case hd => rfl); (case hg => rfl); (case hr => first | (go_simp; done) | (go_simp; rfl)); intro gm hg w3 hbox hb; have BM := mK hbox; have RO3 := mK (Kd.R_types (rB RO.out hb) hbox (by decide)); have HG := mK (hg : gm = _); have n0_ := mK (lT HB.out hb); have SZ2 := mK (below_size HB.out); clear HB RO; have HB := n0_; clear n0_ hb hbox hg))
  go_ret
  obtain ⟨A', c', rfl⟩ := Kd.R_slice RO3.out
  refine ⟨gm, rfl, A', c', ⟨0, BM.out⟩, rM (rL RO3.out (Nat.le_trans HBS.out SZ.out)) (fun _ hk => hk.2), HB0.out.trans (HB.out.mono HBS.out), ?_, ?_⟩
  · have h1 := HG.out; have h2 := SZ2.out; have h3 := HBS.out; omega
  · have h1 := HG.out; have h2 := blk_lt BM.out; have h3 := HBS.out; have h4 := SZ2.out; omega
theorem impl_machine.nclosure (x : S83) (g : Nat) (h : Int) (w : World) (hc : w.cell? ⟨g, 0, none⟩ = some (.int .i64 h)) : Calls Tryz.prog 96 #[.agg #[.int .i64 x.f0, .int .i64 x.f1, .int .i64 x.f2, .string x.f3], .pointer (some ⟨g, 0, none⟩)] w fun e w' => e = .returned (.bool (x.f2 == h)) ∧ Below w.heap.size w w' := by
  have hu83 := Tryz.underlying83
  have HB := mK (Below.refl w.heap.size w)
  go_enter Tryz.func96, Tryz.ntmps96
  go_wp2_with (first | ((with_reducible refine gate_dst (N := 2) rfl ?_); refine box_event ?hg (N := 2) ?hd (cs := #[.int .i64 x.f0, .int .i64 x.f1, .int .i64 x.f2, .string x.f3]) (t := 83) ?hr ?_; (case hd => rfl); (case hg => rfl); (case hr => first | (go_simp; done) | (go_simp; rfl)); intro gd hg w4 hbox hb; have n0_ := mK (lT HB.out hb); clear HB; have HB := n0_; replace hc := (hb.cell (World.block_lt_of_cell? w _ hc)).trans hc; have hcz2 : w4.cell? ⟨gd, 2, none⟩ = some (.int .i64 x.f2) := (bC hbox 2).trans rfl; clear n0_ hb hbox hg))
  go_ret
  exact ⟨rfl, HB.out⟩
theorem impl_machine.seenM (k : Nat) (w0 : World) (base g : Nat) (s : ByteArray) (A : Option Addr) (c : Nat) (l : List S106) (im : ByteArray) (w : World) (h : impl_machine.St w0 base g s A c l w) (hs : impl_Device_seen.f k s l = some im) :
    Calls Tryz.prog 99 #[.pointer (some ⟨g, 0, none⟩)] w fun e w' => e = .returned (.string im) ∧ Below w.heap.size w w' := by
  have hu111 := Tryz.underlying111
  have hu32 := Tryz.underlying32
  have N1 := mK (impl_Device_seen.calls k s A c l im w (rR h.2.1).2.2 (rR h.2.1).2.1 hs)
  obtain ⟨cn_, hk_⟩ := h.1; have h0 : w.cell? ⟨g, 0, none⟩ = some (.string s) := (bC hk_ 0).trans rfl; have h1 : w.cell? ⟨g, 1, none⟩ = some (.slice A l.length c) := (bC hk_ 1).trans rfl; clear hk_
  clear hs
  go_enter Tryz.func99, Tryz.ntmps99
  go_wp2_with (go_at_call 81; (refine (N1.out).mono ?_); rintro e w1 ⟨rfl, hb⟩)
  go_ret
  exact ⟨rfl, hb⟩
def impl_machine.noteF (k : Nat) (a0_0 : Int) (a0_1 : Int) (a0_2 : Int) (l0_3 : List ByteArray) (s : ByteArray) (l : List S106) (hf : Int) : Option (ByteArray × List S106 × Int) := (impl_loggedOn.f k a0_0 a0_1 a0_2 l0_3 s l).bind fun q => if q.1.length ≤ 1000 then (if q.2.2 = true then (if q.1.any (fun x => x.f2 == hf) = true then some (s, l, 0) else if (q.1.length : Int) = a0_1 ∨ q.2.1 = 1000000000 then some (s, l, 3) else (impl_Device_seen.f k s l).bind fun im => (impl_Half.f im hf).bind fun t => (impl_RecordLine.f k q.2.1 q.1.length hf t).bind fun r => (impl_machine.syncF s l (4 + q.1.length) r).bind fun d => some (d.1, d.2, 0)) else some (s, l, 1)) else none
theorem impl_machine.note (k : Nat) (a0_0 : Int) (a0_1 : Int) (a0_2 : Int) (A0_3 : Option Addr) (c0_3 : Nat) (l0_3 : List ByteArray) (w0 : World) (g : Nat) (s : ByteArray) (A : Option Addr) (c : Nat) (l : List S106) (hf : Int) (s4 : ByteArray) (l4 : List S106) (code : Int) (w : World) (hr0_3 : Kd.C Kd.string w0 A0_3 l0_3.length l0_3) (hc0_3 : l0_3.length ≤ c0_3) (h : impl_machine.St w0 w0.heap.size g s A c l w) (hF : impl_machine.noteF k a0_0 a0_1 a0_2 l0_3 s l hf = some (s4, l4, code)) :
    Calls Tryz.prog 52 #[.pointer (some ⟨g, 0, none⟩), .agg #[.int .i64 a0_0, .int .i64 a0_1, .int .i64 a0_2, .slice A0_3 l0_3.length c0_3], .int .i64 hf] w fun e w' => e = .returned (.int .i64 code) ∧ ∃ A' c', impl_machine.St w0 w0.heap.size g s4 A' c' l4 w' := by
  unfold impl_machine.noteF at hF
  obtain ⟨⟨list, ep, ok⟩, hq, hF⟩ := Option.bind_eq_some_iff.mp hF
  split at hF
  case isFalse => cases hF
  rename_i hln
  have LN := mK hln
  have hu111 := Tryz.underlying111
  have hu32 := Tryz.underlying32
  have hu35 := Tryz.underlying35
  have hu83 := Tryz.underlying83
  have ST := mK h
  have LG := mK (fun W A c (hW : impl_machine.St w0 w0.heap.size g s A c l W) => impl_loggedOn.calls k a0_0 a0_1 a0_2 A0_3 c0_3 l0_3 s A c l list ep ok W (cB hr0_3 hW.2.2.1) hc0_3 (rR hW.2.1).2.2 (rR hW.2.1).2.1 hq)
  have CT := mK (fun W A c gh (hb : W.heap[gh]? = some (.cells #[.int .i64 hf] 2 (0, 0))) (h1 : Kd.C k83 W A list.length list) (h2 : list.length ≤ c) => impl_LogOf.contains 96 A c list gh 0 hf W (enters_of Tryz.func96 (by kernel_rfl) rfl) (fun x W => impl_machine.nclosure x gh hf W) h1 h2 LN.out ((bC hb 0).trans rfl))
  have F := mK hF
  clear h hr0_3 hc0_3 hq hF hln
  go_enter Tryz.func52, Tryz.ntmps52
  go_wp2_with (first | ((with_reducible refine gate_dst (N := 4) rfl ?_); refine box_event ?hg (N := 4) ?hd (cs := #[.int .i64 a0_0, .int .i64 a0_1, .int .i64 a0_2, .slice A0_3 l0_3.length c0_3]) (t := 35) ?hr ?_; (case hd => rfl); (case hg => rfl); (case hr => first | (go_simp; done) | (go_simp; rfl)); intro gc hg w4 hbox hb; have S4 := mK (ST.out.below hb); have BC4 := mK hbox; clear hbox hb hg) | ((with_reducible refine gate_dst (N := 5) rfl ?_); refine box_event ?hg (N := 5) ?hd (cs := #[.int .i64 hf]) (t := 2) ?hr ?_; (case hd => rfl); (case hg => rfl); (case hr => first | (go_simp; done) | (go_simp; rfl)); intro gh hg w5 hbox hb; have S5 := mK (S4.out.below hb); have BC5 := mK (bB BC4.out hb); have BH5 := mK hbox; clear hbox hb hg; obtain ⟨cn_, hk_⟩ := S5.out.1; have h0 : w5.cell? ⟨g, 0, none⟩ = some (.string s) := (bC hk_ 0).trans rfl; have h1 : w5.cell? ⟨g, 1, none⟩ = some (.slice A l.length c) := (bC hk_ 1).trans rfl; clear hk_; have hc0 : w5.cell? ⟨gc, 0, none⟩ = some (.int .i64 a0_0) := (bC BC5.out 0).trans rfl; have hc1 : w5.cell? ⟨gc, 1, none⟩ = some (.int .i64 a0_1) := (bC BC5.out 1).trans rfl; have hc2 : w5.cell? ⟨gc, 2, none⟩ = some (.int .i64 a0_2) := (bC BC5.out 2).trans rfl; have hc3 : w5.cell? ⟨gc, 3, none⟩ = some (.slice A0_3 l0_3.length c0_3) := (bC BC5.out 3).trans rfl))
  refine start_ (n := 13) (S := fun _ => True) (ds := []) (Array.replicate 13 false) (by kernel_rfl) rfl rfl trivial (fun _ => ?_)
  refine inv_ (fun l_ a w' => ∃ (b0 b1 b2 b3 b4 b5 b6 b7 b8 b9 b10 b11 b12 : Bool) (Av : Option Addr) (cv : Nat), l_ = #[b0, b1, b2, b3, b4, b5, b6, b7, b8, b9, b10, b11, b12] ∧ a = { tmps := #[.pointer (some ⟨g, 0, none⟩), .agg #[.int .i64 a0_0, .int .i64 a0_1, .int .i64 a0_2, .slice A0_3 l0_3.length c0_3], .int .i64 hf, undef, .pointer (some ⟨gc, 0, none⟩), .pointer (some ⟨gh, 0, none⟩), .int .i64 0, cond b10 (.slice Av list.length cv) undef, cond b11 (.int .i64 ep) undef, cond b12 (.bool ok) undef, cond b6 (.tuple #[.slice Av list.length cv, .int .i64 ep, .bool ok]) undef, cond b0 (.agg #[.int .i64 a0_0, .int .i64 a0_1, .int .i64 a0_2, .slice A0_3 l0_3.length c0_3]) undef, cond b1 (.pointer (some ⟨g, 0, none⟩)) undef, cond b2 (.pointer (some ⟨g, 0, none⟩)) undef, cond b3 (.pointer (some ⟨g, 0, none⟩)) undef, cond b4 (.agg #[.string s, .slice A l.length c]) undef, cond b5 (.tuple #[.slice Av list.length cv, .int .i64 ep, .bool ok]) undef, cond b7 (.slice Av list.length cv) undef, cond b8 (.int .i64 ep) undef, cond b9 (.bool ok) undef, undef, undef, undef, undef, undef, undef, undef, undef, undef, undef, undef, undef, undef, undef, undef, undef, undef, undef, undef, undef, undef, undef, undef, undef, undef, undef, undef, undef, undef, undef, undef, undef], defers := [] } ∧ Below w5.heap.size w5 w' ∧ (b5 = true → Kd.R k83 83 w' w5.heap.size (fun _ => True) (.slice Av list.length cv) list) ∧ (b6 = true → b5 = true) ∧ (b7 = true → b6 = true) ∧ (b10 = true → b7 = true)) (by kernel_rfl) ?step ?done 13 _ _ _ (by decide) ?init
  case init => exact ⟨false, false, false, false, false, false, false, false, false, false, false, false, false, none, 0, rfl, rfl, lN (Below.refl _ _) 1, (fun h => by cases h), (fun h => by cases h), (fun h => by cases h), (fun h => by cases h)⟩
  case step =>
    rintro i oi l_ a w' hoi hun hneed ⟨b0, b1, b2, b3, b4, b5, b6, b7, b8, b9, b10, b11, b12, Av, cv, rfl, rfl, hB, h5, d6_5, d7_6, d10_7⟩ K hC
    have hlt : i < 13 := (Array.getElem?_eq_some_iff.1 hoi).1
    have hi : i = 0 ∨ i = 1 ∨ i = 2 ∨ i = 3 ∨ i = 4 ∨ i = 5 ∨ i = 6 ∨ i = 7 ∨ i = 8 ∨ i = 9 ∨ i = 10 ∨ i = 11 ∨ i = 12 := by omega
    clear hlt
    have S5n := S5.out.below hB; have BC5n := bB BC5.out hB; obtain ⟨cn_, hk_⟩ := S5n.1; have h0 : w'.cell? ⟨g, 0, none⟩ = some (.string s) := (bC hk_ 0).trans rfl; have h1 : w'.cell? ⟨g, 1, none⟩ = some (.slice A l.length c) := (bC hk_ 1).trans rfl; clear hk_; have hc0 : w'.cell? ⟨gc, 0, none⟩ = some (.int .i64 a0_0) := (bC BC5n 0).trans rfl; have hc1 : w'.cell? ⟨gc, 1, none⟩ = some (.int .i64 a0_1) := (bC BC5n 1).trans rfl; have hc2 : w'.cell? ⟨gc, 2, none⟩ = some (.int .i64 a0_2) := (bC BC5n 2).trans rfl; have hc3 : w'.cell? ⟨gc, 3, none⟩ = some (.slice A0_3 l0_3.length c0_3) := (bC BC5n 3).trans rfl
    rcases hi with rfl | rfl | rfl | rfl | rfl | rfl | rfl | rfl | rfl | rfl | rfl | rfl | rfl
    all_goals
      simp only [List.getElem?_toArray, List.getElem?_cons_succ, List.getElem?_cons_zero, Option.some.injEq] at hoi
      subst hoi
      simp [Region.binds] at hneed
    all_goals
      (try (repeat (obtain ⟨hh, hneed⟩ := hneed; subst hh)))
      (try subst hneed)
      first
      | (refine value_ (w1 := w') (v := ?_) (by rfl) rfl ?_ ?_; rotate_left 1; (· go_simp; with_reducible rfl); exact hC _ _ ⟨_, _, _, _, _, _, _, _, _, _, _, _, _, _, _, rfl, rfl, hB, h5, (by first | assumption | exact fun _ => rfl), (by first | assumption | exact fun _ => rfl), (by first | assumption | exact fun _ => rfl)⟩)
      | ((obtain rfl : b5 = false := hun); (obtain rfl : b6 = false := by cases b6; rfl; exact absurd (d6_5 rfl) (by decide)); (obtain rfl : b7 = false := by cases b7; rfl; exact absurd (d7_6 rfl) (by decide)); (obtain rfl : b10 = false := by cases b10; rfl; exact absurd (d10_7 rfl) (by decide)); refine goes_ Tryz.func50 (by kernel_rfl) rfl #[.agg #[.int .i64 a0_0, .int .i64 a0_1, .int .i64 a0_2, .slice A0_3 l0_3.length c0_3], .agg #[.string s, .slice A l.length c]] (by rfl) rfl rfl (by (try simp only [List.map_toArray, List.map_cons, List.map_nil]); first | done | rfl) ?_; refine (LG.out _ _ _ S5n).mono ?_; rintro e w6 ⟨v6, rfl, ho, hb⟩; obtain ⟨A6, c6, rfl⟩ := Kd.R_slice ho; exact ⟨_, rfl, hC _ _ ⟨_, _, _, _, _, _, _, _, _, _, _, _, _, A6, c6, rfl, rfl, lT hB hb, (fun _ => rL ho hB.size), (fun h => by cases h), (fun h => by cases h), (fun h => by cases h)⟩⟩)
  case done =>
    rintro l_ a w6 hall ⟨b0, b1, b2, b3, b4, b5, b6, b7, b8, b9, b10, b11, b12, Av, cv, rfl, rfl, hB, h5, -, -, -⟩
    (obtain rfl : b0 = true := hall 0 (by decide)); (obtain rfl : b1 = true := hall 1 (by decide)); (obtain rfl : b2 = true := hall 2 (by decide)); (obtain rfl : b3 = true := hall 3 (by decide)); (obtain rfl : b4 = true := hall 4 (by decide)); (obtain rfl : b5 = true := hall 5 (by decide)); (obtain rfl : b6 = true := hall 6 (by decide)); (obtain rfl : b7 = true := hall 7 (by decide)); (obtain rfl : b8 = true := hall 8 (by decide)); (obtain rfl : b9 = true := hall 9 (by decide)); (obtain rfl : b10 = true := hall 10 (by decide)); (obtain rfl : b11 = true := hall 11 (by decide)); (obtain rfl : b12 = true := hall 12 (by decide))
    simp only [cond_true]
    have S6 := mK (S5.out.below hB)
    have BC6 := mK (bB BC5.out hB)
    have BH6 := mK (bB BH5.out hB)
    have RL6 := mK (rR (h5 rfl))
    clear h5 hall hB h0 h1 hc0 hc1 hc2 hc3
    by_cases co : ok = true
    · subst co
      go_wp2_with (first | (go_at_call 64; (refine (CT.out _ _ _ _ BH6.out RL6.out.2.2 RL6.out.2.1).mono ?_); rintro e w7 ⟨rfl, hb⟩; have S7 := mK (S6.out.below hb); have BC7 := mK (bB BC6.out hb); have BH7 := mK (bB BH6.out hb); have RL7 := mK (And.intro RL6.out.2.1 (cB RL6.out.2.2 hb)); clear hb; have hc0 : w7.cell? ⟨gc, 0, none⟩ = some (.int .i64 a0_0) := (bC BC7.out 0).trans rfl; have hc1 : w7.cell? ⟨gc, 1, none⟩ = some (.int .i64 a0_1) := (bC BC7.out 1).trans rfl; have hc2 : w7.cell? ⟨gc, 2, none⟩ = some (.int .i64 a0_2) := (bC BC7.out 2).trans rfl; have hc3 : w7.cell? ⟨gc, 3, none⟩ = some (.slice A0_3 l0_3.length c0_3) := (bC BC7.out 3).trans rfl; refine Aside0.out ?_))
      have hF := F.out
      clear F
      simp only [if_true] at hF
      refine mK ?_
      by_cases ca : list.any (fun x => x.f2 == hf) = true
      · rw [if_pos ca] at hF
        simp only [Option.some.injEq, Prod.mk.injEq] at hF
        obtain ⟨rfl, rfl, rfl⟩ := hF
        rw [ca]
        go_wp2
        go_ret
        exact ⟨rfl, _, _, S7.out⟩
      · rw [if_neg ca] at hF
        replace ca := Bool.eq_false_iff.2 ca
        obtain ⟨bL, hL⟩ : ∃ x, ((list.length : Int) == a0_1) = x := ⟨_, rfl⟩
        obtain ⟨bE, hE⟩ : ∃ x, (ep == 1000000000) = x := ⟨_, rfl⟩
        rw [ca]
        go_wp2
        refine start_ (n := 10) (S := fun _ => True) (ds := []) (Array.replicate 10 false) (by kernel_rfl) rfl rfl trivial (fun _ => ?_)
        refine inv_ (fun l_ a w' => ∃ (b0 b1 b2 b3 b4 b5 b6 b7 b8 b9 : Bool) , l_ = #[b0, b1, b2, b3, b4, b5, b6, b7, b8, b9] ∧ a = { tmps := #[.pointer (some ⟨g, 0, none⟩), .agg #[.int .i64 a0_0, .int .i64 a0_1, .int .i64 a0_2, .slice A0_3 l0_3.length c0_3], .int .i64 hf, undef, .pointer (some ⟨gc, 0, none⟩), .pointer (some ⟨gh, 0, none⟩), .int .i64 0, .slice Av list.length cv, .int .i64 ep, .bool true, .tuple #[.slice Av list.length cv, .int .i64 ep, .bool true], .agg #[.int .i64 a0_0, .int .i64 a0_1, .int .i64 a0_2, .slice A0_3 l0_3.length c0_3], .pointer (some ⟨g, 0, none⟩), .pointer (some ⟨g, 0, none⟩), .pointer (some ⟨g, 0, none⟩), .agg #[.string s, .slice A l.length c], .tuple #[.slice Av list.length cv, .int .i64 ep, .bool true], .slice Av list.length cv, .int .i64 ep, .bool true, .bool false, .bool true, .bool false, .bool false, .slice Av list.length cv, .func (.func 96) #[] #[.pointer (some ⟨gh, 0, none⟩)], .bool false, cond b9 (.bool (bL || bE)) undef, cond b0 (.slice Av list.length cv) undef, cond b1 (.int .i64 (list.length : Int)) undef, cond b2 (.pointer (some ⟨gc, 1, none⟩)) undef, cond b3 (.int .i64 a0_1) undef, cond b4 (.bool bL) undef, cond b5 (.bool bL) undef, cond b6 (cond bL undef (.int .i64 ep)) undef, cond b7 (cond bL undef (.bool bE)) undef, cond b8 (.bool (bL || bE)) undef, undef, undef, undef, undef, undef, undef, undef, undef, undef, undef, undef, undef, undef, undef, undef], defers := [] } ∧ Below w7.heap.size w7 w') (by kernel_rfl) ?step ?done 10 _ _ _ (by decide) ?init
        case init => exact ⟨false, false, false, false, false, false, false, false, false, false, rfl, rfl, lN (Below.refl _ _) 1⟩
        case step =>
          rintro i oi l_ a w' hoi hun hneed ⟨b0, b1, b2, b3, b4, b5, b6, b7, b8, b9, rfl, rfl, hB⟩ K hC
          have hlt : i < 10 := (Array.getElem?_eq_some_iff.1 hoi).1
          have hi : i = 0 ∨ i = 1 ∨ i = 2 ∨ i = 3 ∨ i = 4 ∨ i = 5 ∨ i = 6 ∨ i = 7 ∨ i = 8 ∨ i = 9 := by omega
          clear hlt
          have BC7n := bB BC7.out hB; have hc0 : w'.cell? ⟨gc, 0, none⟩ = some (.int .i64 a0_0) := (bC BC7n 0).trans rfl; have hc1 : w'.cell? ⟨gc, 1, none⟩ = some (.int .i64 a0_1) := (bC BC7n 1).trans rfl; have hc2 : w'.cell? ⟨gc, 2, none⟩ = some (.int .i64 a0_2) := (bC BC7n 2).trans rfl; have hc3 : w'.cell? ⟨gc, 3, none⟩ = some (.slice A0_3 l0_3.length c0_3) := (bC BC7n 3).trans rfl
          rcases hi with rfl | rfl | rfl | rfl | rfl | rfl | rfl | rfl | rfl | rfl
          all_goals
            simp only [List.getElem?_toArray, List.getElem?_cons_succ, List.getElem?_cons_zero, Option.some.injEq] at hoi
            subst hoi
            simp [Region.binds] at hneed
          all_goals
            (try (repeat (obtain ⟨hh, hneed⟩ := hneed; subst hh)))
            (try subst hneed)
            first
            | (refine value_ (w1 := w') (v := ?_) (by rfl) rfl ?_ ?_; rotate_left 1; (· go_simp; (try rw [hL]); with_reducible rfl); exact hC _ _ ⟨_, _, _, _, _, _, _, _, _, _, rfl, rfl, hB⟩)
            | (refine goes_ Tryz.func66 (by kernel_rfl) rfl #[.slice Av list.length cv] (by rfl) rfl rfl (by (try simp only [List.map_toArray, List.map_cons, List.map_nil]); first | done | rfl) ?_; refine (impl_LogOf.size _ _ _ w' RL7.out.1 LN.out).mono ?_; rintro e w6 ⟨rfl, hd⟩; exact ⟨_, rfl, hC _ _ ⟨_, _, _, _, _, _, _, _, _, _, rfl, rfl, lT hB hd.below⟩⟩)
            | (cases bL <;> first | (refine value_ (w1 := w') (v := ?_) (by rfl) rfl ?_ ?_; rotate_left 1; (· go_simp; (try rw [hE]); with_reducible rfl); exact hC _ _ ⟨_, _, _, _, _, _, _, _, _, _, rfl, rfl, hB⟩) | (refine Eq.mpr (if_neg ?_) (hC _ _ ⟨_, _, _, _, _, _, _, _, _, _, rfl, rfl, hB⟩); exact fun h_ => absurd (show false = true from h_) (by decide)))
        case done =>
          rintro l_ a w8 hall ⟨b0, b1, b2, b3, b4, b5, b6, b7, b8, b9, rfl, rfl, hB⟩
          (obtain rfl : b0 = true := hall 0 (by decide)); (obtain rfl : b1 = true := hall 1 (by decide)); (obtain rfl : b2 = true := hall 2 (by decide)); (obtain rfl : b3 = true := hall 3 (by decide)); (obtain rfl : b4 = true := hall 4 (by decide)); (obtain rfl : b5 = true := hall 5 (by decide)); (obtain rfl : b6 = true := hall 6 (by decide)); (obtain rfl : b7 = true := hall 7 (by decide)); (obtain rfl : b8 = true := hall 8 (by decide)); (obtain rfl : b9 = true := hall 9 (by decide))
          simp only [cond_true]
          have S8 := mK (S7.out.below hB)
          have BH8 := mK (bB BH7.out hB)
          have BC8 := mK (bB BC7.out hB)
          clear hall hB hc0 hc1 hc2 hc3
          by_cases cl : (list.length : Int) = a0_1 ∨ ep = 1000000000
          · rw [if_pos cl] at hF
            simp only [Option.some.injEq, Prod.mk.injEq] at hF
            obtain ⟨rfl, rfl, rfl⟩ := hF
            have e3 : (bL || bE) = true := by rw [← hL, ← hE, Bool.or_eq_true, beq_iff_eq, beq_iff_eq]; exact cl
            rw [e3]
            go_wp2
            go_ret
            exact ⟨rfl, _, _, S8.out⟩
          · rw [if_neg cl] at hF
            obtain ⟨im, hse, hF⟩ := Option.bind_eq_some_iff.mp hF
            obtain ⟨t, hha, hF⟩ := Option.bind_eq_some_iff.mp hF
            obtain ⟨r, hre, hF⟩ := Option.bind_eq_some_iff.mp hF
            obtain ⟨⟨s5, l5⟩, hsy, hF⟩ := Option.bind_eq_some_iff.mp hF
            simp only [Option.some.injEq, Prod.mk.injEq] at hF
            obtain ⟨rfl, rfl, rfl⟩ := hF
            obtain rfl : bL = false := by rw [← hL]; exact beq_eq_false_iff_ne.mpr (fun h => cl (.inl h))
            obtain rfl : bE = false := by rw [← hE]; exact beq_eq_false_iff_ne.mpr (fun h => cl (.inr h))
            have SN := mK (fun W (hW : impl_machine.St w0 w0.heap.size g s A c l W) => impl_machine.seenM k w0 w0.heap.size g s A c l im W hW hse)
            have HF := mK (fun W => impl_Half.calls im hf t W hha)
            have RL := mK (fun W => impl_RecordLine.calls k ep (list.length : Int) hf t r W hre)
            have SY := mK (fun W (hW : impl_machine.St w0 w0.heap.size g s A c l W) => impl_machine.sync w0 w0.heap.size g s A c l (4 + (list.length : Int)) r s5 l5 W hW hsy)
            have hle := LN.out
            have q4 : IntKind.i64.wrap (4 + (list.length : Int)) = 4 + (list.length : Int) := by rw [i64_w]; unfold wrap64; omega
            have q5 : wrap64 (4 + (list.length : Int)) = 4 + (list.length : Int) := by unfold wrap64; omega
            clear hse hha hre hsy cl hle hL hE
            simp only [cond_false, Bool.or_false]
            go_wp2
            refine start_ (n := 15) (S := fun _ => True) (ds := []) (Array.replicate 15 false) (by kernel_rfl) rfl rfl trivial (fun _ => ?_)
            refine inv_ (fun l_ a w' => ∃ (b0 b1 b2 b3 b4 b5 b6 b7 b8 b9 b10 b11 b12 b13 b14 : Bool), l_ = #[b0, b1, b2, b3, b4, b5, b6, b7, b8, b9, b10, b11, b12, b13, b14] ∧ a = { tmps := #[.pointer (some ⟨g, 0, none⟩), .agg #[.int .i64 a0_0, .int .i64 a0_1, .int .i64 a0_2, .slice A0_3 l0_3.length c0_3], .int .i64 hf, undef, .pointer (some ⟨gc, 0, none⟩), .pointer (some ⟨gh, 0, none⟩), .int .i64 0, .slice Av list.length cv, .int .i64 ep, .bool true, .tuple #[.slice Av list.length cv, .int .i64 ep, .bool true], .agg #[.int .i64 a0_0, .int .i64 a0_1, .int .i64 a0_2, .slice A0_3 l0_3.length c0_3], .pointer (some ⟨g, 0, none⟩), .pointer (some ⟨g, 0, none⟩), .pointer (some ⟨g, 0, none⟩), .agg #[.string s, .slice A l.length c], .tuple #[.slice Av list.length cv, .int .i64 ep, .bool true], .slice Av list.length cv, .int .i64 ep, .bool true, .bool false, .bool true, .bool false, .bool false, .slice Av list.length cv, .func (.func 96) #[] #[.pointer (some ⟨gh, 0, none⟩)], .bool false, .bool false, .slice Av list.length cv, .int .i64 (list.length : Int), .pointer (some ⟨gc, 1, none⟩), .int .i64 a0_1, .bool false, .bool false, .int .i64 ep, .bool false, .bool false, cond b0 (.pointer (some ⟨g, 0, none⟩)) undef, cond b1 (.slice Av list.length cv) undef, cond b2 (.int .i64 (list.length : Int)) undef, cond b3 (.int .i64 (4 + (list.length : Int))) undef, cond b4 (.int .i64 ep) undef, cond b5 (.slice Av list.length cv) undef, cond b6 (.int .i64 (list.length : Int)) undef, cond b7 (.int .i64 hf) undef, cond b8 (.pointer (some ⟨g, 0, none⟩)) undef, cond b9 (.string im) undef, cond b10 (.int .i64 hf) undef, cond b11 (.string t) undef, cond b12 (.agg #[.int .i64 ep, .int .i64 (list.length : Int), .int .i64 hf, .string t]) undef, cond b13 (.string r) undef, cond b14 (.tuple #[]) undef], defers := [] } ∧ (b14 = false → Below w8.heap.size w8 w') ∧ (b14 = true → ∃ A' c', impl_machine.St w0 w0.heap.size g s5 A' c' l5 w') ∧ (b14 = true → b13 = true) ∧ (b13 = true → b12 = true) ∧ (b12 = true → b7 = true) ∧ (b12 = true → b11 = true) ∧ (b11 = true → b9 = true) ∧ (b11 = true → b10 = true)) (by kernel_rfl) ?step ?done 15 _ _ _ (by decide) ?init
            case init => exact ⟨false, false, false, false, false, false, false, false, false, false, false, false, false, false, false, rfl, rfl, (fun _ => lN (Below.refl _ _) 1), (fun h => by cases h), by refine ⟨?_, ?_, ?_, ?_, ?_, ?_⟩ <;> exact fun h => by cases h⟩
            case done =>
              rintro l_ a w9 hall ⟨b0, b1, b2, b3, b4, b5, b6, b7, b8, b9, b10, b11, b12, b13, b14, rfl, rfl, -, j2, -, -, -, -, -, -⟩
              (obtain rfl : b0 = true := hall 0 (by decide)); (obtain rfl : b1 = true := hall 1 (by decide)); (obtain rfl : b2 = true := hall 2 (by decide)); (obtain rfl : b3 = true := hall 3 (by decide)); (obtain rfl : b4 = true := hall 4 (by decide)); (obtain rfl : b5 = true := hall 5 (by decide)); (obtain rfl : b6 = true := hall 6 (by decide)); (obtain rfl : b7 = true := hall 7 (by decide)); (obtain rfl : b8 = true := hall 8 (by decide)); (obtain rfl : b9 = true := hall 9 (by decide)); (obtain rfl : b10 = true := hall 10 (by decide)); (obtain rfl : b11 = true := hall 11 (by decide)); (obtain rfl : b12 = true := hall 12 (by decide)); (obtain rfl : b13 = true := hall 13 (by decide)); (obtain rfl : b14 = true := hall 14 (by decide))
              obtain ⟨A9, c9, hs9⟩ := j2 rfl
              have S9 := mK hs9
              simp only [cond_true]
              clear hs9 j2 hall
              go_wp2
              go_ret
              exact ⟨rfl, _, _, S9.out⟩
            case step =>
              rintro i oi l_ a w' hoi hun hneed ⟨b0, b1, b2, b3, b4, b5, b6, b7, b8, b9, b10, b11, b12, b13, b14, rfl, rfl, j1, j2, d14_13, d13_12, d12_7, d12_11, d11_9, d11_10⟩ K hC
              have hlt : i < 15 := (Array.getElem?_eq_some_iff.1 hoi).1
              have hi : i = 0 ∨ i = 1 ∨ i = 2 ∨ i = 3 ∨ i = 4 ∨ i = 5 ∨ i = 6 ∨ i = 7 ∨ i = 8 ∨ i = 9 ∨ i = 10 ∨ i = 11 ∨ i = 12 ∨ i = 13 ∨ i = 14 := by omega
              clear hlt
              rcases hi with rfl | rfl | rfl | rfl | rfl | rfl | rfl | rfl | rfl | rfl | rfl | rfl | rfl | rfl | rfl
              all_goals
                simp only [List.getElem?_toArray, List.getElem?_cons_succ, List.getElem?_cons_zero, Option.some.injEq] at hoi
                subst hoi
                simp [Region.binds] at hneed
              all_goals
                (try (repeat (obtain ⟨hh, hneed⟩ := hneed; subst hh)))
                (try subst hneed)
              rotate_right 1
              · obtain rfl : b14 = false := hun
                refine goes_ Tryz.func93 (by kernel_rfl) rfl #[.pointer (some ⟨g, 0, none⟩), .int .i64 (4 + (list.length : Int)), .string r] (by rfl) rfl rfl (by (try simp only [List.map_toArray, List.map_cons, List.map_nil]); first | done | rfl) ?_
                refine (SY.out _ (S8.out.below (j1 rfl))).mono ?_
                rintro e w6 ⟨rfl, A6, c6, hs⟩
                exact ⟨_, rfl, hC _ _ ⟨_, _, _, _, _, _, _, _, _, _, _, _, _, _, _, rfl, rfl, (fun h => by cases h), (fun _ => ⟨A6, c6, hs⟩), (by refine ⟨?_, ?_, ?_, ?_, ?_, ?_⟩ <;> first | assumption | exact fun _ => rfl)⟩⟩
              rotate_right 1
              · refine goes_ Tryz.func97 (by kernel_rfl) rfl #[.agg #[.int .i64 ep, .int .i64 (list.length : Int), .int .i64 hf, .string t]] (by rfl) rfl rfl (by (try simp only [List.map_toArray, List.map_cons, List.map_nil]); first | done | rfl) ?_
                refine (RL.out w').mono ?_
                rintro e w6 ⟨rfl, hb⟩
                exact ⟨_, rfl, hC _ _ ⟨_, _, _, _, _, _, _, _, _, _, _, _, _, _, _, rfl, rfl, (fun h => lT (j1 h) hb), (fun h => by obtain ⟨A', c', q⟩ := j2 h; exact ⟨A', c', q.below hb⟩), (by refine ⟨?_, ?_, ?_, ?_, ?_, ?_⟩ <;> first | assumption | exact fun _ => rfl)⟩⟩
              rotate_right 2
              · refine goes_ Tryz.func98 (by kernel_rfl) rfl #[.string im, .int .i64 hf] (by rfl) rfl rfl (by (try simp only [List.map_toArray, List.map_cons, List.map_nil]); first | done | rfl) ?_
                refine (HF.out w').mono ?_
                rintro e w6 ⟨rfl, hb⟩
                have hb := hb.below
                exact ⟨_, rfl, hC _ _ ⟨_, _, _, _, _, _, _, _, _, _, _, _, _, _, _, rfl, rfl, (fun h => lT (j1 h) hb), (fun h => by obtain ⟨A', c', q⟩ := j2 h; exact ⟨A', c', q.below hb⟩), (by refine ⟨?_, ?_, ?_, ?_, ?_, ?_⟩ <;> first | assumption | exact fun _ => rfl)⟩⟩
              rotate_right 1
              · obtain rfl : b10 = false := hun
                obtain rfl : b11 = false := by cases b11; rfl; exact absurd (d11_10 rfl) (by decide)
                obtain rfl : b12 = false := by cases b12; rfl; exact absurd (d12_11 rfl) (by decide)
                obtain rfl : b13 = false := by cases b13; rfl; exact absurd (d13_12 rfl) (by decide)
                obtain rfl : b14 = false := by cases b14; rfl; exact absurd (d14_13 rfl) (by decide)
                have hh : w'.cell? ⟨gh, 0, none⟩ = some (.int .i64 hf) := (bC (bB BH8.out (j1 rfl)) 0).trans rfl
                refine value_ (w1 := w') (v := ?_) (by rfl) rfl ?_ ?_; rotate_left 1; (· go_simp; (try with_reducible rfl)); exact hC _ _ ⟨_, _, _, _, _, _, _, _, _, _, _, _, _, _, _, rfl, rfl, j1, j2, (by refine ⟨?_, ?_, ?_, ?_, ?_, ?_⟩ <;> first | assumption | exact fun _ => rfl)⟩
              rotate_right 1
              · obtain rfl : b9 = false := hun
                obtain rfl : b11 = false := by cases b11; rfl; exact absurd (d11_9 rfl) (by decide)
                obtain rfl : b12 = false := by cases b12; rfl; exact absurd (d12_11 rfl) (by decide)
                obtain rfl : b13 = false := by cases b13; rfl; exact absurd (d13_12 rfl) (by decide)
                obtain rfl : b14 = false := by cases b14; rfl; exact absurd (d14_13 rfl) (by decide)
                refine goes_ Tryz.func99 (by kernel_rfl) rfl #[.pointer (some ⟨g, 0, none⟩)] (by rfl) rfl rfl (by (try simp only [List.map_toArray, List.map_cons, List.map_nil]); first | done | rfl) ?_
                refine (SN.out _ (S8.out.below (j1 rfl))).mono ?_
                rintro e w6 ⟨rfl, hb⟩
                exact ⟨_, rfl, hC _ _ ⟨_, _, _, _, _, _, _, _, _, _, _, _, _, _, _, rfl, rfl, (fun h => lT (j1 h) hb), (fun h => by obtain ⟨A', c', q⟩ := j2 h; exact ⟨A', c', q.below hb⟩), (by refine ⟨?_, ?_, ?_, ?_, ?_, ?_⟩ <;> first | assumption | exact fun _ => rfl)⟩⟩
              rotate_right 2
              · obtain rfl : b7 = false := hun
                obtain rfl : b12 = false := by cases b12; rfl; exact absurd (d12_7 rfl) (by decide)
                obtain rfl : b13 = false := by cases b13; rfl; exact absurd (d13_12 rfl) (by decide)
                obtain rfl : b14 = false := by cases b14; rfl; exact absurd (d14_13 rfl) (by decide)
                have hh : w'.cell? ⟨gh, 0, none⟩ = some (.int .i64 hf) := (bC (bB BH8.out (j1 rfl)) 0).trans rfl
                refine value_ (w1 := w') (v := ?_) (by rfl) rfl ?_ ?_; rotate_left 1; (· go_simp; (try with_reducible rfl)); exact hC _ _ ⟨_, _, _, _, _, _, _, _, _, _, _, _, _, _, _, rfl, rfl, j1, j2, (by refine ⟨?_, ?_, ?_, ?_, ?_, ?_⟩ <;> first | assumption | exact fun _ => rfl)⟩
              all_goals first
                | (refine goes_ Tryz.func66 (by kernel_rfl) rfl #[.slice Av list.length cv] (by rfl) rfl rfl (by (try simp only [List.map_toArray, List.map_cons, List.map_nil]); first | done | rfl) ?_; refine (impl_LogOf.size _ _ _ w' RL7.out.1 LN.out).mono ?_; rintro e w6 ⟨rfl, hd⟩; have hb := hd.below; exact ⟨_, rfl, hC _ _ ⟨_, _, _, _, _, _, _, _, _, _, _, _, _, _, _, rfl, rfl, (fun h => lT (j1 h) hb), (fun h => by obtain ⟨A', c', q⟩ := j2 h; exact ⟨A', c', q.below hb⟩), (by refine ⟨?_, ?_, ?_, ?_, ?_, ?_⟩ <;> first | assumption | exact fun _ => rfl)⟩⟩)
                | (refine value_ (w1 := w') (v := ?_) (by rfl) rfl ?_ ?_; rotate_left 1; (· go_simp; (try with_reducible rfl)); exact hC _ _ ⟨_, _, _, _, _, _, _, _, _, _, _, _, _, _, _, rfl, rfl, j1, j2, (by refine ⟨?_, ?_, ?_, ?_, ?_, ?_⟩ <;> first | assumption | exact fun _ => rfl)⟩)
    · replace co := Bool.eq_false_iff.mpr co
      subst co
      have hF := F.out
      clear F
      simp only [Bool.false_eq_true, if_false, Option.some.injEq, Prod.mk.injEq] at hF
      obtain ⟨rfl, rfl, rfl⟩ := hF
      go_wp2
      go_ret
      exact ⟨rfl, _, _, S6.out⟩
theorem impl_machine.ans (w0 : World) (base g : Nat) (s : ByteArray) (A : Option Addr) (c : Nat) (l : List S106) (code : Int) (w : World) (h : impl_machine.St w0 base g s A c l w) :
    Calls Tryz.prog 41 #[.pointer (some ⟨g, 0, none⟩), .int .i64 code] w fun e w' => e = .returned (.tuple #[.agg #[.string (if code = 0 then s else ⟨#[]⟩), if code = 0 then .slice A l.length c else .slice none 0 0], .int .i64 code]) ∧ Below w.heap.size w w' := by
  have hu111 := Tryz.underlying111
  have hu32 := Tryz.underlying32
  have ST := mK h
  clear h
  by_cases cc : code = 0
  · subst cc
    simp only [if_true]
    go_enter Tryz.func41, Tryz.ntmps41
    go_wp2_with (((with_reducible refine gate_dst (N := 4) rfl ?_); refine box_event ?hg (N := 4) ?hd (cs := #[.string (⟨#[]⟩ : ByteArray), .slice none 0 0]) (t := 32) ?hr ?_; (case hd => rfl); (case hg => rfl); (case hr => first | (go_simp; done) | (go_simp; rfl)); intro gr hg w3 hbox hb; have HB3 := mK hb; have S3 := mK (ST.out.below hb); have BR := mK hbox; have GE := mK (by rw [hg]; exact Nat.le_refl _ : w.heap.size ≤ gr); clear hbox hb hg; have hf0 := bF BR.out 0; have hf1 := bF BR.out 1; have hr0 : w3.cell? ⟨gr, 0, none⟩ = some (.string (⟨#[]⟩ : ByteArray)) := (bC BR.out 0).trans rfl; have hr1 : w3.cell? ⟨gr, 1, none⟩ = some (.slice none 0 0) := (bC BR.out 1).trans rfl; obtain ⟨cn, hk⟩ := S3.out.1; have h0 : w3.cell? ⟨g, 0, none⟩ = some (.string s) := (bC hk 0).trans rfl; have h1 : w3.cell? ⟨g, 1, none⟩ = some (.slice A l.length c) := (bC hk 1).trans rfl; clear hk))
    refine bodyPost_ret (results_ct rfl _ _ gr 32 #[.string s, .slice A l.length c] (0, 0) _ rfl (by refine blk_put (cs := #[.string s, .slice none 0 0]) ?_ 1 _ rfl; refine blk_put (cs := #[.string (⟨#[]⟩ : ByteArray), .slice none 0 0]) ?_ 0 _ rfl; exact BR.out) Tryz.underlying32 rfl (by kernel_rfl)) rfl ?_
    exact ⟨rfl, lS (lS HB3.out GE.out) GE.out⟩
  · simp only [if_neg cc]
    have e1 : decide (code = 0) = false := decide_eq_false cc
    go_enter Tryz.func41, Tryz.ntmps41
    go_wp2_with (((with_reducible refine gate_dst (N := 4) rfl ?_); refine box_event ?hg (N := 4) ?hd (cs := #[.string (⟨#[]⟩ : ByteArray), .slice none 0 0]) (t := 32) ?hr ?_; (case hd => rfl); (case hg => rfl); (case hr => first | (go_simp; done) | (go_simp; rfl)); intro gr hg w3 hbox hb; have HB3 := mK hb; have S3 := mK (ST.out.below hb); have BR := mK hbox; have GE := mK (by rw [hg]; exact Nat.le_refl _ : w.heap.size ≤ gr); clear hbox hb hg; have hf0 := bF BR.out 0; have hf1 := bF BR.out 1; have hr0 : w3.cell? ⟨gr, 0, none⟩ = some (.string (⟨#[]⟩ : ByteArray)) := (bC BR.out 0).trans rfl; have hr1 : w3.cell? ⟨gr, 1, none⟩ = some (.slice none 0 0) := (bC BR.out 1).trans rfl; obtain ⟨cn, hk⟩ := S3.out.1; have h0 : w3.cell? ⟨g, 0, none⟩ = some (.string s) := (bC hk 0).trans rfl; have h1 : w3.cell? ⟨g, 1, none⟩ = some (.slice A l.length c) := (bC hk 1).trans rfl; clear hk))
    refine bodyPost_ret (results_ct rfl _ _ gr 32 #[.string (⟨#[]⟩ : ByteArray), .slice none 0 0] (0, 0) _ rfl (by refine blk_put (cs := #[.string (⟨#[]⟩ : ByteArray), .slice none 0 0]) ?_ 1 _ rfl; refine blk_put (cs := #[.string (⟨#[]⟩ : ByteArray), .slice none 0 0]) ?_ 0 _ rfl; exact BR.out) Tryz.underlying32 rfl (by kernel_rfl)) rfl ?_
    exact ⟨rfl, lS (lS HB3.out GE.out) GE.out⟩
def impl_Noted.f (k : Nat) (a0_0 : Int) (a0_1 : Int) (a0_2 : Int) (l0_3 : List ByteArray) (a1_0 : ByteArray) (l1_1 : List (S106)) (a2 : Int) : Option (ByteArray × (List (S106)) × Int) := (impl_loggedOn.f k a0_0 a0_1 a0_2 l0_3 a1_0 l1_1).bind fun q => if q.2.2 = true then ((impl_canLog.f a0_0 a0_1 a0_2 l0_3 a2).bind fun t => if t = true then (impl_Device_own.f a1_0 l1_1).bind fun o => (impl_machine.noteF k a0_0 a0_1 a0_2 l0_3 o.1 o.2 a2).bind fun r => if r.2.2 = 0 then some r else some ((⟨#[]⟩ : ByteArray), [], r.2.2) else some ((⟨#[]⟩ : ByteArray), [], 2)) else some ((⟨#[]⟩ : ByteArray), [], 1)
theorem impl_Noted.calls (k : Nat) (a0_0 : Int) (a0_1 : Int) (a0_2 : Int) (A0_3 : Option Addr) (c0_3 : Nat) (l0_3 : List ByteArray) (a1_0 : ByteArray) (A1_1 : Option Addr) (c1_1 : Nat) (l1_1 : List (S106)) (a2 : Int) (r1 : ByteArray) (r2 : List (S106)) (r3 : Int) (w : World) (hr0_3 : Kd.C Kd.string w A0_3 l0_3.length l0_3) (hc0_3 : l0_3.length ≤ c0_3) (hr1_1 : Kd.C k106 w A1_1 l1_1.length l1_1) (hc1_1 : l1_1.length ≤ c1_1) (h : impl_Noted.f k a0_0 a0_1 a0_2 l0_3 a1_0 l1_1 a2 = some (r1, r2, r3)) :
    Calls Tryz.prog 20 #[.agg #[.int .i64 a0_0, .int .i64 a0_1, .int .i64 a0_2, .slice A0_3 l0_3.length c0_3], .agg #[.string a1_0, .slice A1_1 l1_1.length c1_1], .int .i64 a2] w fun e w' => ∃ v1_ : Value, e = .returned (.tuple #[.agg #[.string r1, v1_], .int .i64 r3]) ∧ Kd.R k106 106 w' w.heap.size (fun _ => True) v1_ r2 ∧ Below w.heap.size w w' := by
 have hu111 := Tryz.underlying111; have hu32 := Tryz.underlying32; have hu35 := Tryz.underlying35; unfold impl_Noted.f at h; obtain ⟨⟨list, ep, ok⟩, hq, h⟩ := Option.bind_eq_some_iff.mp h; have LG := mK (fun W (hb : Below w.heap.size w W) => impl_loggedOn.calls k a0_0 a0_1 a0_2 A0_3 c0_3 l0_3 a1_0 A1_1 c1_1 l1_1 list ep ok W (cB hr0_3 hb) hc0_3 (cB hr1_1 hb) hc1_1 hq); have HB := mK (Below.refl w.heap.size w); clear hq; by_cases co : ok = true
 ·subst co; rw [if_pos rfl] at h; obtain ⟨t, ht, h⟩ := Option.bind_eq_some_iff.mp h; have CL := mK (fun W (hb : Below w.heap.size w W) => impl_canLog.calls a0_0 a0_1 a0_2 A0_3 c0_3 l0_3 a2 t W (cB hr0_3 hb) hc0_3 ht); clear ht; by_cases ct : t = true
  ·subst ct; rw [if_pos rfl] at h; obtain ⟨⟨s2, l2⟩, ho, h⟩ := Option.bind_eq_some_iff.mp h; obtain ⟨⟨s3, l3, code⟩, he, h⟩ := Option.bind_eq_some_iff.mp h
   obtain ⟨VA, vn, Vc, AN, hcode, RR⟩ : ∃ (VA : Option Addr → Option Addr) (vn : Nat) (Vc : Nat → Nat), Aside0 (∀ W0 g A c W, impl_machine.St W0 W0.heap.size g s3 A c l3 W → Calls Tryz.prog 41 #[.pointer (some ⟨g, 0, none⟩), .int .i64 code] W fun e w' => e = .returned (.tuple #[.agg #[.string r1, .slice (VA A) vn (Vc c)], .int .i64 code]) ∧ Below W.heap.size W w') ∧ code = r3 ∧ Aside0 (∀ W b A c, Kd.R k106 106 W b (fun _ => True) (.slice A l3.length c) l3 → Kd.R k106 106 W b (fun _ => True) (.slice (VA A) vn (Vc c)) r2) := by
     by_cases cc : code = 0
     · rw [if_pos cc] at h
       simp only [Option.some.injEq, Prod.mk.injEq] at h
       obtain ⟨rfl, rfl, rfl⟩ := h
       exact ⟨fun A => A, l3.length, fun c => c, ⟨fun W0 g A c W hW => by simpa only [if_pos cc] using impl_machine.ans W0 _ g s3 A c l3 code W hW⟩, rfl, ⟨fun _ _ _ _ h => h⟩⟩
     · rw [if_neg cc] at h
       simp only [Option.some.injEq, Prod.mk.injEq] at h
       obtain ⟨rfl, rfl, rfl⟩ := h
       exact ⟨fun _ => none, 0, fun _ => 0, ⟨fun W0 g A c W hW => by simpa only [if_neg cc] using impl_machine.ans W0 _ g s3 A c l3 code W hW⟩, rfl, ⟨fun _ _ _ _ _ => Kd.R_nil _ _ _ _ _⟩⟩
   subst hcode; have NW := mK (fun W (hb : Below w.heap.size w W) => impl_machine.new a1_0 A1_1 c1_1 l1_1 s2 l2 W W W.heap.size (Below.refl _ _) (Nat.le_refl _) (cB hr1_1 hb) hc1_1 ho); have EN := mK (fun W0 (hb : Below w.heap.size w W0) W g A c (hW : impl_machine.St W0 W0.heap.size g s2 A c l2 W) => impl_machine.note k a0_0 a0_1 a0_2 A0_3 c0_3 l0_3 W0 g s2 A c l2 a2 s3 l3 code W (cB hr0_3 hb) hc0_3 hW he); clear hr0_3 hc0_3 hr1_1 hc1_1 h ho he; go_enter Tryz.func20, Tryz.ntmps20; go_wp2_with (first | ((with_reducible refine gate_dst (N := 3) rfl ?_); refine box_event ?hg (N := 3) ?hd (cs := #[.int .i64 a0_0, .int .i64 a0_1, .int .i64 a0_2, .slice A0_3 l0_3.length c0_3]) (t := 35) ?hr ?_; (case hd => rfl); (case hg => rfl); (case hr => first | (go_simp; done) | (go_simp; rfl)); intro gc hg w1 hbox hb; have HB1 := mK (lT HB.out hb); have BC1 := mK hbox; clear hbox hb hg) | ((with_reducible refine gate_dst (N := 4) rfl ?_); refine box_event ?hg (N := 4) ?hd (cs := #[.string a1_0, .slice A1_1 l1_1.length c1_1]) (t := 32) ?hr ?_; (case hd => rfl); (case hg => rfl); (case hr => first | (go_simp; done) | (go_simp; rfl)); intro gd hg w2 hbox hb; have HB2 := mK (lT HB1.out hb); have BC2 := mK (bB BC1.out hb); have BD2 := mK hbox; clear hbox hb hg BC1 HB1) | ((with_reducible refine gate_dst (N := 6) rfl ?_); refine box_event ?hg (N := 6) ?hd (cs := #[.string (⟨#[]⟩ : ByteArray), .slice none 0 0]) (t := 32) ?hr ?_; (case hd => rfl); (case hg => rfl); (case hr => first | (go_simp; done) | (go_simp; rfl)); intro gr hg w3 hbox hb; have HB3 := mK (lT HB2.out hb); have BC3 := mK (bB BC2.out hb); have BD3 := mK (bB BD2.out hb); have BR3 := mK hbox; have GEr := mK (by rw [hg]; exact (below_size HB2.out) : w.heap.size ≤ gr); clear hbox hb hg BC2 BD2 HB2; have hc0 : w3.cell? ⟨gc, 0, none⟩ = some (.int .i64 a0_0) := (bC BC3.out 0).trans rfl; have hc1 : w3.cell? ⟨gc, 1, none⟩ = some (.int .i64 a0_1) := (bC BC3.out 1).trans rfl; have hc2 : w3.cell? ⟨gc, 2, none⟩ = some (.int .i64 a0_2) := (bC BC3.out 2).trans rfl; have hc3 : w3.cell? ⟨gc, 3, none⟩ = some (.slice A0_3 l0_3.length c0_3) := (bC BC3.out 3).trans rfl; have hd0 : w3.cell? ⟨gd, 0, none⟩ = some (.string a1_0) := (bC BD3.out 0).trans rfl; have hd1 : w3.cell? ⟨gd, 1, none⟩ = some (.slice A1_1 l1_1.length c1_1) := (bC BD3.out 1).trans rfl) | (go_at_call 50; (refine (LG.out _ HB3.out).mono ?_); rintro e w4 ⟨v4, rfl, hro, hb⟩; obtain ⟨Av, cv, rfl⟩ := Kd.R_slice hro; have HB4 := mK (lT HB3.out hb); have BC4 := mK (bB BC3.out hb); have BD4 := mK (bB BD3.out hb); have BR4 := mK (bB BR3.out hb); clear hro hb hc0 hc1 hc2 hc3 hd0 hd1; have hc0 : w4.cell? ⟨gc, 0, none⟩ = some (.int .i64 a0_0) := (bC BC4.out 0).trans rfl; have hc1 : w4.cell? ⟨gc, 1, none⟩ = some (.int .i64 a0_1) := (bC BC4.out 1).trans rfl; have hc2 : w4.cell? ⟨gc, 2, none⟩ = some (.int .i64 a0_2) := (bC BC4.out 2).trans rfl; have hc3 : w4.cell? ⟨gc, 3, none⟩ = some (.slice A0_3 l0_3.length c0_3) := (bC BC4.out 3).trans rfl; have hf0 := bF BR4.out 0; have hf1 := bF BR4.out 1; have hr0 : w4.cell? ⟨gr, 0, none⟩ = some (.string (⟨#[]⟩ : ByteArray)) := (bC BR4.out 0).trans rfl; have hr1 : w4.cell? ⟨gr, 1, none⟩ = some (.slice none 0 0) := (bC BR4.out 1).trans rfl) | (go_at_call 51; (refine (CL.out _ HB4.out).mono ?_); rintro e w5 ⟨rfl, hb⟩; have HB5 := mK (lT HB4.out hb); have BC5 := mK (bB BC4.out hb); have BD5 := mK (bB BD4.out hb); have BR5 := mK (bB BR4.out hb); clear hb hc0 hc1 hc2 hc3 hr0 hr1 hf0 hf1; have hd0 : w5.cell? ⟨gd, 0, none⟩ = some (.string a1_0) := (bC BD5.out 0).trans rfl; have hd1 : w5.cell? ⟨gd, 1, none⟩ = some (.slice A1_1 l1_1.length c1_1) := (bC BD5.out 1).trans rfl; have hf0 := bF BR5.out 0; have hf1 := bF BR5.out 1; have hr0 : w5.cell? ⟨gr, 0, none⟩ = some (.string (⟨#[]⟩ : ByteArray)) := (bC BR5.out 0).trans rfl; have hr1 : w5.cell? ⟨gr, 1, none⟩ = some (.slice none 0 0) := (bC BR5.out 1).trans rfl) | (go_at_call 40; (refine (NW.out _ HB5.out).mono ?_); rintro e w6 ⟨gm, rfl, A4, c4, hs⟩; have S6 := mK hs; have BC6 := mK (bB BC5.out hs.2.2.1); clear hs hd0 hd1 hr0 hr1 hf0 hf1 NW; have hc0 : w6.cell? ⟨gc, 0, none⟩ = some (.int .i64 a0_0) := (bC BC6.out 0).trans rfl; have hc1 : w6.cell? ⟨gc, 1, none⟩ = some (.int .i64 a0_1) := (bC BC6.out 1).trans rfl; have hc2 : w6.cell? ⟨gc, 2, none⟩ = some (.int .i64 a0_2) := (bC BC6.out 2).trans rfl; have hc3 : w6.cell? ⟨gc, 3, none⟩ = some (.slice A0_3 l0_3.length c0_3) := (bC BC6.out 3).trans rfl) | (go_at_call 52; (refine (EN.out _ HB5.out _ _ _ _ S6.out).mono ?_); rintro e w7 ⟨rfl, A5, c5, hs⟩; have S7 := mK hs; clear hs hc0 hc1 hc2 hc3) | (go_at_call 41; (refine (AN.out _ _ _ _ _ S7.out).mono ?_); rintro e w8 ⟨rfl, hb⟩; have S8 := mK (S7.out.below hb); have BR8 := mK (bB (bB BR5.out S7.out.2.2.1) hb); have LT := mK (blk_lt BR5.out); have hf0 := bF BR8.out 0; have hf1 := bF BR8.out 1; have hr0 : w8.cell? ⟨gr, 0, none⟩ = some (.string (⟨#[]⟩ : ByteArray)) := (bC BR8.out 0).trans rfl; have hr1 : w8.cell? ⟨gr, 1, none⟩ = some (.slice none 0 0) := (bC BR8.out 1).trans rfl; clear hb; have RW := RR.out w8 w5.heap.size A5 c5; generalize VA A5 = A6 at *; generalize Vc c5 = c6 at *)); refine bodyPost_ret (results_ct rfl _ _ gr 32 #[.string r1, .slice A6 vn c6] (0, 0) _ rfl (by refine blk_put (cs := #[.string r1, .slice none 0 0]) ?_ 1 _ rfl; refine blk_put (cs := #[.string (⟨#[]⟩ : ByteArray), .slice none 0 0]) ?_ 0 _ rfl; exact BR8.out) Tryz.underlying32 rfl (by kernel_rfl)) rfl ?_; refine ⟨_, rfl, ?_, lS (lS (HB5.out.trans (S8.out.2.2.1.mono HB5.out.size)) GEr.out) GEr.out⟩; have R1 := Kd.R_bound (RW (rM S8.out.2.1 (fun _ _ => trivial))); exact rM (Kd.R_far (p := ⟨gr, 1, none⟩) (Kd.R_far (p := ⟨gr, 0, none⟩) (rL R1 HB5.out.size) (fun k hk e_ => by have h1 := hk.2.1; have h2 := LT.out; simp only at e_; omega) _) (fun k hk e_ => by have h1 := hk.2.1; have h2 := LT.out; simp only at e_; omega) _) (fun _ _ => trivial)
  ·rw [if_neg ct] at h; replace ct := Bool.eq_false_iff.2 ct; subst ct; clear hr0_3 hc0_3 hr1_1 hc1_1; simp only [Option.some.injEq, Prod.mk.injEq] at h; obtain ⟨rfl, rfl, rfl⟩ := h; go_enter Tryz.func20, Tryz.ntmps20; go_wp2_with (first | ((with_reducible refine gate_dst (N := 3) rfl ?_); refine box_event ?hg (N := 3) ?hd (cs := #[.int .i64 a0_0, .int .i64 a0_1, .int .i64 a0_2, .slice A0_3 l0_3.length c0_3]) (t := 35) ?hr ?_; (case hd => rfl); (case hg => rfl); (case hr => first | (go_simp; done) | (go_simp; rfl)); intro gc hg w1 hbox hb; have HB1 := mK (lT HB.out hb); have BC1 := mK hbox; clear hbox hb hg) | ((with_reducible refine gate_dst (N := 4) rfl ?_); refine box_event ?hg (N := 4) ?hd (cs := #[.string a1_0, .slice A1_1 l1_1.length c1_1]) (t := 32) ?hr ?_; (case hd => rfl); (case hg => rfl); (case hr => first | (go_simp; done) | (go_simp; rfl)); intro gd hg w2 hbox hb; have HB2 := mK (lT HB1.out hb); have BC2 := mK (bB BC1.out hb); have BD2 := mK hbox; clear hbox hb hg BC1 HB1) | ((with_reducible refine gate_dst (N := 6) rfl ?_); refine box_event ?hg (N := 6) ?hd (cs := #[.string (⟨#[]⟩ : ByteArray), .slice none 0 0]) (t := 32) ?hr ?_; (case hd => rfl); (case hg => rfl); (case hr => first | (go_simp; done) | (go_simp; rfl)); intro gr hg w3 hbox hb; have HB3 := mK (lT HB2.out hb); have BC3 := mK (bB BC2.out hb); have BD3 := mK (bB BD2.out hb); have BR3 := mK hbox; have GEr := mK (by rw [hg]; exact (below_size HB2.out) : w.heap.size ≤ gr); clear hbox hb hg BC2 BD2 HB2; have hc0 : w3.cell? ⟨gc, 0, none⟩ = some (.int .i64 a0_0) := (bC BC3.out 0).trans rfl; have hc1 : w3.cell? ⟨gc, 1, none⟩ = some (.int .i64 a0_1) := (bC BC3.out 1).trans rfl; have hc2 : w3.cell? ⟨gc, 2, none⟩ = some (.int .i64 a0_2) := (bC BC3.out 2).trans rfl; have hc3 : w3.cell? ⟨gc, 3, none⟩ = some (.slice A0_3 l0_3.length c0_3) := (bC BC3.out 3).trans rfl; have hd0 : w3.cell? ⟨gd, 0, none⟩ = some (.string a1_0) := (bC BD3.out 0).trans rfl; have hd1 : w3.cell? ⟨gd, 1, none⟩ = some (.slice A1_1 l1_1.length c1_1) := (bC BD3.out 1).trans rfl) | (go_at_call 50; (refine (LG.out _ HB3.out).mono ?_); rintro e w4 ⟨v4, rfl, hro, hb⟩; obtain ⟨Av, cv, rfl⟩ := Kd.R_slice hro; have HB4 := mK (lT HB3.out hb); have BC4 := mK (bB BC3.out hb); have BD4 := mK (bB BD3.out hb); have BR4 := mK (bB BR3.out hb); clear hro hb hc0 hc1 hc2 hc3 hd0 hd1; have hc0 : w4.cell? ⟨gc, 0, none⟩ = some (.int .i64 a0_0) := (bC BC4.out 0).trans rfl; have hc1 : w4.cell? ⟨gc, 1, none⟩ = some (.int .i64 a0_1) := (bC BC4.out 1).trans rfl; have hc2 : w4.cell? ⟨gc, 2, none⟩ = some (.int .i64 a0_2) := (bC BC4.out 2).trans rfl; have hc3 : w4.cell? ⟨gc, 3, none⟩ = some (.slice A0_3 l0_3.length c0_3) := (bC BC4.out 3).trans rfl; have hf0 := bF BR4.out 0; have hf1 := bF BR4.out 1; have hr0 : w4.cell? ⟨gr, 0, none⟩ = some (.string (⟨#[]⟩ : ByteArray)) := (bC BR4.out 0).trans rfl; have hr1 : w4.cell? ⟨gr, 1, none⟩ = some (.slice none 0 0) := (bC BR4.out 1).trans rfl) | (go_at_call 51; (refine (CL.out _ HB4.out).mono ?_); rintro e w5 ⟨rfl, hb⟩; have HB5 := mK (lT HB4.out hb); have BC5 := mK (bB BC4.out hb); have BD5 := mK (bB BD4.out hb); have BR5 := mK (bB BR4.out hb); clear hb hc0 hc1 hc2 hc3 hr0 hr1 hf0 hf1; have hd0 : w5.cell? ⟨gd, 0, none⟩ = some (.string a1_0) := (bC BD5.out 0).trans rfl; have hd1 : w5.cell? ⟨gd, 1, none⟩ = some (.slice A1_1 l1_1.length c1_1) := (bC BD5.out 1).trans rfl; have hf0 := bF BR5.out 0; have hf1 := bF BR5.out 1; have hr0 : w5.cell? ⟨gr, 0, none⟩ = some (.string (⟨#[]⟩ : ByteArray)) := (bC BR5.out 0).trans rfl; have hr1 : w5.cell? ⟨gr, 1, none⟩ = some (.slice none 0 0) := (bC BR5.out 1).trans rfl)); refine bodyPost_ret (results_ct rfl _ _ gr 32 #[.string (⟨#[]⟩ : ByteArray), .slice none 0 0] (0, 0) _ rfl (by refine blk_put (cs := #[.string (⟨#[]⟩ : ByteArray), .slice none 0 0]) ?_ 1 _ rfl; refine blk_put (cs := #[.string (⟨#[]⟩ : ByteArray), .slice none 0 0]) ?_ 0 _ rfl; exact BR5.out) Tryz.underlying32 rfl (by kernel_rfl)) rfl ?_; exact ⟨_, rfl, Kd.R_nil _ _ _ _ _, lS (lS HB5.out GEr.out) GEr.out⟩
 ·rw [if_neg co] at h; replace co := Bool.eq_false_iff.2 co; subst co; clear hr0_3 hc0_3 hr1_1 hc1_1; simp only [Option.some.injEq, Prod.mk.injEq] at h; obtain ⟨rfl, rfl, rfl⟩ := h; go_enter Tryz.func20, Tryz.ntmps20; go_wp2_with (first | ((with_reducible refine gate_dst (N := 3) rfl ?_); refine box_event ?hg (N := 3) ?hd (cs := #[.int .i64 a0_0, .int .i64 a0_1, .int .i64 a0_2, .slice A0_3 l0_3.length c0_3]) (t := 35) ?hr ?_; (case hd => rfl); (case hg => rfl); (case hr => first | (go_simp; done) | (go_simp; rfl)); intro gc hg w1 hbox hb; have HB1 := mK (lT HB.out hb); have BC1 := mK hbox; clear hbox hb hg) | ((with_reducible refine gate_dst (N := 4) rfl ?_); refine box_event ?hg (N := 4) ?hd (cs := #[.string a1_0, .slice A1_1 l1_1.length c1_1]) (t := 32) ?hr ?_; (case hd => rfl); (case hg => rfl); (case hr => first | (go_simp; done) | (go_simp; rfl)); intro gd hg w2 hbox hb; have HB2 := mK (lT HB1.out hb); have BC2 := mK (bB BC1.out hb); have BD2 := mK hbox; clear hbox hb hg BC1 HB1) | ((with_reducible refine gate_dst (N := 6) rfl ?_); refine box_event ?hg (N := 6) ?hd (cs := #[.string (⟨#[]⟩ : ByteArray), .slice none 0 0]) (t := 32) ?hr ?_; (case hd => rfl); (case hg => rfl); (case hr => first | (go_simp; done) | (go_simp; rfl)); intro gr hg w3 hbox hb; have HB3 := mK (lT HB2.out hb); have BC3 := mK (bB BC2.out hb); have BD3 := mK (bB BD2.out hb); have BR3 := mK hbox; have GEr := mK (by rw [hg]; exact (below_size HB2.out) : w.heap.size ≤ gr); clear hbox hb hg BC2 BD2 HB2; have hc0 : w3.cell? ⟨gc, 0, none⟩ = some (.int .i64 a0_0) := (bC BC3.out 0).trans rfl; have hc1 : w3.cell? ⟨gc, 1, none⟩ = some (.int .i64 a0_1) := (bC BC3.out 1).trans rfl; have hc2 : w3.cell? ⟨gc, 2, none⟩ = some (.int .i64 a0_2) := (bC BC3.out 2).trans rfl; have hc3 : w3.cell? ⟨gc, 3, none⟩ = some (.slice A0_3 l0_3.length c0_3) := (bC BC3.out 3).trans rfl; have hd0 : w3.cell? ⟨gd, 0, none⟩ = some (.string a1_0) := (bC BD3.out 0).trans rfl; have hd1 : w3.cell? ⟨gd, 1, none⟩ = some (.slice A1_1 l1_1.length c1_1) := (bC BD3.out 1).trans rfl) | (go_at_call 50; (refine (LG.out _ HB3.out).mono ?_); rintro e w4 ⟨v4, rfl, hro, hb⟩; obtain ⟨Av, cv, rfl⟩ := Kd.R_slice hro; have HB4 := mK (lT HB3.out hb); have BC4 := mK (bB BC3.out hb); have BD4 := mK (bB BD3.out hb); have BR4 := mK (bB BR3.out hb); clear hro hb hc0 hc1 hc2 hc3 hd0 hd1; have hc0 : w4.cell? ⟨gc, 0, none⟩ = some (.int .i64 a0_0) := (bC BC4.out 0).trans rfl; have hc1 : w4.cell? ⟨gc, 1, none⟩ = some (.int .i64 a0_1) := (bC BC4.out 1).trans rfl; have hc2 : w4.cell? ⟨gc, 2, none⟩ = some (.int .i64 a0_2) := (bC BC4.out 2).trans rfl; have hc3 : w4.cell? ⟨gc, 3, none⟩ = some (.slice A0_3 l0_3.length c0_3) := (bC BC4.out 3).trans rfl; have hf0 := bF BR4.out 0; have hf1 := bF BR4.out 1; have hr0 : w4.cell? ⟨gr, 0, none⟩ = some (.string (⟨#[]⟩ : ByteArray)) := (bC BR4.out 0).trans rfl; have hr1 : w4.cell? ⟨gr, 1, none⟩ = some (.slice none 0 0) := (bC BR4.out 1).trans rfl)); refine bodyPost_ret (results_ct rfl _ _ gr 32 #[.string (⟨#[]⟩ : ByteArray), .slice none 0 0] (0, 0) _ rfl (by refine blk_put (cs := #[.string (⟨#[]⟩ : ByteArray), .slice none 0 0]) ?_ 1 _ rfl; refine blk_put (cs := #[.string (⟨#[]⟩ : ByteArray), .slice none 0 0]) ?_ 0 _ rfl; exact BR4.out) Tryz.underlying32 rfl (by kernel_rfl)) rfl ?_; exact ⟨_, rfl, Kd.R_nil _ _ _ _ _, lS (lS HB4.out GEr.out) GEr.out⟩
end Go.Proofs.YtngccjeicolcpaaGreatDoor.PFnLogFull
