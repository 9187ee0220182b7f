/- Contracts of the program's functions at this seat, printed by a program of ours and checked by Lean: each under the conditions of its own statement. -/
import Derived.Test.YtieoiccmlhjioaaGreatDoorF3
import Derived.Test.YtieoiccmlhjioaaGreatDoorE4
import Derived.Shelf.Spec.SlicesInsertGrow
set_option linter.all false
set_option linter.unnecessarySimpa false
set_option linter.unusedSectionVars false
set_option linter.unusedSimpArgs false
set_option linter.unusedVariables false
namespace Go.Proofs
open Go Go.Proofs Go.Ev
section
open Go.Shelf Go.RowKit Go.Lib
theorem info62 : (Tryz.prog.info? 62).map (fun i => (i.zero, i.size, i.bytes)) = some (some (Value.agg #[.slice none 0 0, .slice none 0 0]), 2, 48) := by kernel_rfl
set_option maxHeartbeats 4000000 in
set_option maxRecDepth 100000 in
theorem ins_roomM (w : World) (b vb n c i vc m : Nat) (cur cur2 : Array Value) (cells news : List Value) (hi : i < n) (hm : 0 < m) (hroom : n + m ≤ c) (hc63 : c ≤ 9223372036854775807) (hvb : vb ≠ b)
    (hb : w.heap[b]? = some (.cells cur 62 (0, 0))) (hcs : cur.size = c * 2) (hct : cur.toList.take (n * 2) = cells) (h1c : ∀ v ∈ cells, v.oneCell' = true)
    (hb2 : w.heap[vb]? = some (.cells cur2 62 (0, 0))) (hcs2 : cur2.size = vc * 2) (hct2 : cur2.toList.take (m * 2) = news) (h1v : ∀ v ∈ news, v.oneCell' = true) (hmv : m ≤ vc) :
    Calls Tryz.prog 98 #[.slice (some ⟨b, 0, none⟩) n c, .int .i64 i, .slice (some ⟨vb, 0, none⟩) m vc] w fun e' w' => e' = .returned (.slice (some ⟨b, 0, none⟩) (n + m) c) ∧
      w' = (w.drew.setRow b (cur.toList.take ((i + m) * 2) ++ cells.drop (i * 2) ++ cur.toList.drop ((i + m) * 2 + (n - i) * 2)).toArray).setRow b (((cur.toList.take ((i + m) * 2) ++ cells.drop (i * 2) ++ cur.toList.drop ((i + m) * 2 + (n - i) * 2))).take (i * 2) ++ news ++ ((cur.toList.take ((i + m) * 2) ++ cells.drop (i * 2) ++ cur.toList.drop ((i + m) * 2 + (n - i) * 2))).drop (i * 2 + m * 2)).toArray := by
  have uI := run_underlying Tryz.underlying3; have uB := run_underlying Tryz.underlying4; have u29 := run_underlying Tryz.underlying29; have u62 := run_underlying Tryz.underlying62
  have hz1 : ¬ ((m : Int) = 0) := by omega
  have hz2 : ¬ ((i : Int) = (n : Int)) := by omega
  obtain ⟨i0, hi0, hz0, hi1, hby⟩ := info_parts info62
  have z62 : ∀ w, (Go.sizeOf 62).run Tryz.prog w = .ok 2 w := fun w => by kernel_rfl
  have hsa : w.shape? vb = some (62, vc * 2) := by simp [World.shape?, hb2, hcs2]
  have hsb : w.shape? b = some (62, c * 2) := by simp [World.shape?, hb, hcs]
  have hfa : w.frozen? ⟨vb, 0, none⟩ = false := by simp [World.frozen?, hb2]
  have hfe : w.frozen? ⟨vb, vc * 2, none⟩ = false := by simp [World.frozen?, hb2]
  have hov : ∀ o lb cb, (callFunc 146 #[.slice (some ⟨vb, 0, none⟩) m vc, .slice (some ⟨b, o, none⟩) lb cb]).run Tryz.prog w = .ok (.value (.bool false)) w := fun o lb cb => by
    rw [run_callFunc_extern Tryz.func146 (by kernel_rfl) (by kernel_rfl) (by kernel_rfl) (e := Extern.SlicesOverlaps.overlaps #[29, 29] #[4]) (by kernel_rfl),
      Lib.run_overlaps_apart w 29 4 62 Tryz.underlying29 2 z62 ⟨vb, 0, none⟩ ⟨b, o, none⟩ m vc lb cb hvb 62 62 (vc * 2) (c * 2) hsa hsb (by omega) hfa hfe]
    rfl
  have hw1 : IntKind.i64.wrap ((i : Int) + (m : Int)) = (i : Int) + (m : Int) := by rw [IntKind.wrap_i64]; omega
  have hb1 : (0 : Int) ≤ (i : Int) + (m : Int) := by omega
  have hin : i ≤ n := by omega
  have htn : ((i : Int) + (m : Int)).toNat = i + m := by omega
  have hb2' : ¬ (c = i + m) := by omega
  have hb3 : (i : Int) ≤ (n : Int) + (m : Int) := by omega
  have hb4 : ¬ (c = i) := by omega
  have mixed : Tryz.prog.follows .mixedOrders = true := by kernel_rfl
  have hcl : cells.length = n * 2 := by rw [← hct]; exact take_all9 hcs (by omega)
  have hvl : news.length = m * 2 := by rw [← hct2]; exact take_all9 hcs2 hmv
  have hdl : (cells.drop (i * 2)).length = (n - i) * 2 := by rw [List.length_drop, hcl]; omega
  have hmin : Nat.min (n + m - i) (n + m - (i + m)) = n - i := by simp only [Nat.min_def]; split <;> omega
  have hmin2 : Nat.min m (n + m - i) = m := by simp only [Nat.min_def]; split <;> omega
  obtain ⟨cu, hcu⟩ : ∃ cu, cu = cur.toList.take ((i + m) * 2) ++ cells.drop (i * 2) ++ cur.toList.drop ((i + m) * 2 + (n - i) * 2) := ⟨_, rfl⟩
  rw [← hcu]
  have hcul : cu.length = c * 2 := by
    rw [hcu]; simp only [List.length_append, List.length_take, List.length_drop, Array.length_toList, hcs, hdl]; omega
  have hcp1 : ∀ ty dc sc, (Builtin.copy_ #[29, 29] ty #[.slice (some ⟨b, (i + m) * 2, none⟩) (n + m - (i + m)) dc, .slice (some ⟨b, i * 2, none⟩) (n + m - i) sc]).run Tryz.prog w.drew = .ok (goInt ((n - i : Nat) : Int)) (w.drew.setRow b cu.toArray) := fun ty dc sc => by
    have h := run_copy_rowN (P := Tryz.prog) w.drew 29 29 ty 62 b ((i + m) * 2) (n + m - (i + m)) dc ⟨b, i * 2, none⟩ (n + m - i) sc cur 62 (cells.drop (i * 2)) i0 Tryz.underlying29 hi0 hb (by rw [hdl, hmin, hi1])
      (fun j v hj => row_cell9 (w := w.drew) hb (by
        rw [← hct, List.getElem?_drop, List.getElem?_take] at hj
        split at hj
        · exact hj
        · cases hj)) (by rw [hdl, hcs]; omega) (fun v hv => h1c v (List.mem_of_mem_drop hv))
    rw [hmin, hdl, ← hcu] at h
    exact h
  obtain ⟨W1, hW1⟩ : ∃ W1, W1 = w.drew.setRow b cu.toArray := ⟨_, rfl⟩
  rw [← hW1] at hcp1
  have hbb : W1.heap[b]? = some (.cells cu.toArray 62 (0, 0)) := by rw [hW1]; exact setRow_heap w.drew b cur _ 62 _ hb
  have hbv : W1.heap[vb]? = some (.cells cur2 62 (0, 0)) := by rw [hW1]; exact ((ext_setRow w.drew b cu.toArray (fun k => k = b) rfl).block vb (by exact (Array.getElem?_eq_some_iff.1 hb2).1) hvb).trans hb2
  have hcp2 : ∀ (W : World), W.heap = W1.heap → ∀ ty dc, (Builtin.copy_ #[29, 29] ty #[.slice (some ⟨b, i * 2, none⟩) (n + m - i) dc, .slice (some ⟨vb, 0, none⟩) m vc]).run Tryz.prog W = .ok (goInt m) (W.setRow b (cu.take (i * 2) ++ news ++ cu.drop (i * 2 + m * 2)).toArray) := fun W hW ty dc => by
    have h := run_copy_rowN (P := Tryz.prog) W 29 29 ty 62 b (i * 2) (n + m - i) dc ⟨vb, 0, none⟩ m vc cu.toArray 62 news i0 Tryz.underlying29 hi0 (by rw [hW]; exact hbb) (by rw [hvl, hmin2, hi1])
      (fun j v hj => row_cell9 (w := W) (by rw [hW]; exact hbv) (by
        rw [← hct2, List.getElem?_take] at hj
        split at hj
        · rw [Nat.zero_add]; exact hj
        · cases hj)) (by rw [hvl]; simp only [List.size_toArray, hcul]; omega) h1v
    rw [hmin2, hvl] at h
    exact h
  go_enter Tryz.func98, Tryz.ntmps98
  go_wp2_with (simp only [hov])
  go_region_law_o (refine step_copy_runI rfl _ _ 29 29 rfl _ _ (by simp [Act.eval, Act.put]) (by simp [Act.eval, Act.put]) (hcp1 _ _ _) ?_)
  go_wp2_with (at_builtin; refine wpList_copy_runI _ rfl _ _ 29 29 rfl _ _ rfl rfl (hcp2 _ rfl _ _) ?_)
  go_ret
  exact ⟨rfl, by rw [hcu]; simp only [List.append_assoc]⟩
theorem ins_room : InsRoom Tryz.prog 98 62 2 := by
  intro w b vb n c i vc cur cur2 cells news hi hroom hcm hn hvb hvc hb hcs hct h1c hb2 hcs2 hct2 h1v
  have hc63 : c ≤ 9223372036854775807 := hcm
  refine (ins_roomM w b vb n c i vc 1 cur cur2 cells news hi (by omega) hroom hc63 hvb hb hcs hct h1c hb2 hcs2 (by rw [Nat.one_mul]; exact hct2) h1v hvc).mono fun e' W' ⟨h1, h2⟩ => ?_
  have hM : news.length = 1 * 2 := by rw [← hct2]; have := take_all9 (n := 1) (k := 2) hcs2 hvc; simpa using this
  have hl := ins_list (cur := cur.toList) (cells := cells) (news := news) (I := i * 2) (M := 1 * 2) (N := n * 2) (C := c * 2) hct (by rw [Array.length_toList, hcs]) (by omega) (by omega) hM rfl
  have e1 : (i + 1) * 2 = i * 2 + 1 * 2 := by omega
  have e2 : (n - i) * 2 = n * 2 - i * 2 := by omega
  have e3 : (n + 1) * 2 = n * 2 + 1 * 2 := by omega
  rw [e1, e2] at h2
  subst h2
  refine ⟨h1, ?_, ?_, _, setRow_heap _ b _ _ 62 _ (setRow_heap w.drew b cur _ 62 _ hb), ?_, ?_⟩
  · refine ⟨rfl, rfl, rfl, by simp, fun k hk hne => ?_⟩
    rw [setRow_other _ _ _ _ hne, setRow_other _ _ _ _ hne]; rfl
  · simp
  · simp only [List.size_toArray]; exact hl.2
  · rw [e3]; exact hl.1
set_option maxHeartbeats 4000000 in
set_option maxRecDepth 100000 in
theorem ins_growM (w : World) (b vb n c i vc m : Nat) (cur cur2 : Array Value) (cells news : List Value) (hi : i < n) (hm : 0 < m) (hnc : n ≤ c) (hroom : c < n + m) (hbig : (n + m) * 48 ≤ 140737488355328) (hvb : vb ≠ b)
    (hb : w.heap[b]? = some (.cells cur 62 (0, 0))) (hcs : cur.size = c * 2) (hct : cur.toList.take (n * 2) = cells) (h1c : ∀ v ∈ cells, v.oneCell' = true)
    (hb2 : w.heap[vb]? = some (.cells cur2 62 (0, 0))) (hcs2 : cur2.size = vc * 2) (hct2 : cur2.toList.take (m * 2) = news) (h1v : ∀ v ∈ news, v.oneCell' = true) (hmv : m ≤ vc) :
    Calls Tryz.prog 98 #[.slice (some ⟨b, 0, none⟩) n c, .int .i64 i, .slice (some ⟨vb, 0, none⟩) m vc] w fun e' w' => ∃ (row r1 : List Value), e' = .returned (.slice (some ⟨w.heap.size, 0, none⟩) (n + m) (grownCap w (n + m) c 62)) ∧
      row.length = grownCap w (n + m) c 62 * 2 ∧ row.take (i * 2) = cells.take (i * 2) ∧ r1 = row.take (i * 2) ++ news ++ row.drop (i * 2 + m * 2) ∧
      ∃ (W1 W2 : World), W1.os = w.os ∧ W1.tape = w.tape ∧ W1.output = w.output ∧ W1.heap = (w.alloc (.cells row.toArray 62)).heap ∧ W2 = W1.setRow w.heap.size r1.toArray ∧
      ∃ W3 : World, W3.os = W2.os ∧ W3.tape = W2.tape ∧ W3.output = W2.output ∧ W3.heap = W2.heap ∧ w' = W3.setRow w.heap.size (r1.take (i * 2 + m * 2) ++ cells.drop (i * 2) ++ r1.drop (i * 2 + m * 2 + (n * 2 - i * 2))).toArray := by
  have uI := run_underlying Tryz.underlying3; have uB := run_underlying Tryz.underlying4; have u29 := run_underlying Tryz.underlying29; have u62 := run_underlying Tryz.underlying62
  have mixed : Tryz.prog.follows .mixedOrders = true := by kernel_rfl
  obtain ⟨i0, hi0, hz0, hi1, hby⟩ := info_parts info62
  obtain ⟨z0, hz9⟩ : ∃ z0, z0 = Value.agg #[.slice none 0 0, .slice none 0 0] := ⟨_, rfl⟩
  have hzc : z0.cells.size = 2 := by rw [hz9]; rfl
  rw [← hz9] at hz0
  have hz1 : ¬ ((m : Int) = 0) := by omega
  have hz2 : ¬ ((i : Int) = (n : Int)) := by omega
  have hz3 : (c : Int) < (n : Int) + (m : Int) := by omega
  have hcl : cells.length = n * 2 := by rw [← hct]; exact take_all9 hcs hnc
  have hvl : news.length = m * 2 := by rw [← hct2]; exact take_all9 hcs2 hmv
  have hdl : (cells.drop (i * 2)).length = (n - i) * 2 := by rw [List.length_drop, hcl]; omega
  have hbw : b < w.heap.size := (Array.getElem?_eq_some_iff.1 hb).1
  have hvw : vb < w.heap.size := (Array.getElem?_eq_some_iff.1 hb2).1
  have hkk : (n : Int) + (m : Int) - (i : Int) = ((n + m - i : Nat) : Int) := by omega
  have hik : i + (n + m - i) = n + m := by omega
  have hold : (Builtin.firstCells i0.size i (.slice (some ⟨b, 0, none⟩) i c)).run Tryz.prog w.drew = .ok (cells.take (i * 2)).toArray w.drew := by
    rw [hi1]
    exact run_firstCells_some w.drew 2 i ⟨b, 0, none⟩ i c (cells.take (i * 2)) (by rw [List.length_take]; omega) (fun j v hj => row_cell9 (w := w.drew) hb (by
      rw [Nat.zero_add]
      rw [← hct, List.take_take, List.getElem?_take] at hj
      split at hj
      · exact hj
      · cases hj))
  have hfit : Builtin.nextslicecap (n + m) c * 48 ≤ 281474976710656 := growslice_fits hroom hbig
  have hrz : ∀ ty, (Builtin.append_ #[29, 3] ty #[.slice (some ⟨b, 0, none⟩) i c, .int .i64 ((n : Int) + (m : Int) - (i : Int))]).run Tryz.prog w =
      .ok (.slice (some ⟨w.heap.size, 0, none⟩) (n + m) (grownCap w (n + m) c 62)) (w.drew.alloc (.cells ((cells.take (i * 2)).toArray ++ Builtin.zeroCells z0.cells (n + m - i) ++ Builtin.zeroCells z0.cells (grownCap w (n + m) c 62 - (n + m))) 62)) := fun ty => by
    have h := Lib.run_append_grow_zeros w 29 3 ty 62 i0 _ .i64 .i64 Tryz.underlying29 Tryz.underlying3 hi0 hz0 (some ⟨b, 0, none⟩) i c (cells.take (i * 2)).toArray.toList (by simpa using hold) (n + m - i) (by omega) (by omega) (by omega) (by omega) (by rw [hby]; have : (n + m - i) * 48 ≤ (n + m) * 48 := Nat.mul_le_mul_right _ (by omega); omega) (by rw [hby, hik]; exact hfit)
    rw [hik] at h
    rw [hkk]
    simpa using h
  obtain ⟨G, hG⟩ : ∃ G, G = grownCap w (n + m) c 62 := ⟨_, rfl⟩
  obtain ⟨row, hROW⟩ : ∃ row : Array Value, row = (cells.take (i * 2)).toArray ++ Builtin.zeroCells z0.cells (n + m - i) ++ Builtin.zeroCells z0.cells (G - (n + m)) := ⟨_, rfl⟩
  rw [← hG] at hrz ⊢
  rw [← hROW] at hrz
  have hGn : n + m ≤ G := by rw [hG]; exact grownCap_ge w _ _ _
  have hRl : row.size = G * 2 := by
    rw [hROW]
    simp only [Array.size_append, List.size_toArray, List.length_take, size_zeroCells, hzc, hcl]; omega
  have hRt : row.toList.take (i * 2) = cells.take (i * 2) := by
    rw [hROW]
    simp only [Array.toList_append, List.append_assoc]
    rw [List.take_append_of_le_length (by simp only [List.length_take, hcl]; omega), List.take_of_length_le (by simp only [List.length_take, hcl]; omega)]
  have hG63 : G ≤ 9223372036854775807 := by
    have := grownCap_le_maxLen w (n + m) c 62 (by unfold maxLen; omega)
    rw [← hG] at this
    unfold maxLen at this
    omega
  obtain ⟨W1, hW1⟩ : ∃ W1, W1 = w.drew.alloc (.cells row 62) := ⟨_, rfl⟩
  rw [← hW1] at hrz
  have h1N : W1.heap[w.heap.size]? = some (.cells row 62 (0, 0)) := by rw [hW1]; exact heap_alloc_new w.drew _
  have h1b : W1.heap[b]? = some (.cells cur 62 (0, 0)) := by rw [hW1]; exact (heap_alloc_old w.drew _ hbw).trans hb
  have h1v' : W1.heap[vb]? = some (.cells cur2 62 (0, 0)) := by rw [hW1]; exact (heap_alloc_old w.drew _ hvw).trans hb2
  have hmin2 : Nat.min m (n + m - i) = m := by simp only [Nat.min_def]; split <;> omega
  have hmin3 : Nat.min (n - i) (n + m - (i + m)) = n - i := by simp only [Nat.min_def]; split <;> omega
  obtain ⟨r1, hr1⟩ : ∃ r1, r1 = row.toList.take (i * 2) ++ news ++ row.toList.drop (i * 2 + m * 2) := ⟨_, rfl⟩
  have hr1l : r1.length = G * 2 := by
    rw [hr1]; simp only [List.length_append, List.length_take, List.length_drop, Array.length_toList, hRl, hvl]; omega
  have hcpA : ∀ (W : World), W.heap = W1.heap → ∀ ty dc, (Builtin.copy_ #[29, 29] ty #[.slice (some ⟨w.heap.size, i * 2, none⟩) (n + m - i) dc, .slice (some ⟨vb, 0, none⟩) m vc]).run Tryz.prog W = .ok (goInt m) (W.setRow w.heap.size r1.toArray) := fun W hW ty dc => by
    have h := run_copy_rowN (P := Tryz.prog) W 29 29 ty 62 w.heap.size (i * 2) (n + m - i) dc ⟨vb, 0, none⟩ m vc row 62 news i0 Tryz.underlying29 hi0 (by rw [hW]; exact h1N) (by rw [hvl, hmin2, hi1])
      (fun j v hj => row_cell9 (w := W) (by rw [hW]; exact h1v') (by
        rw [← hct2, List.getElem?_take] at hj
        split at hj
        · rw [Nat.zero_add]; exact hj
        · cases hj)) (by rw [hvl, hRl]; omega) h1v
    rw [hmin2, hvl, ← hr1] at h
    exact h
  have hNb : b ≠ w.heap.size := by omega
  obtain ⟨r2, hr2⟩ : ∃ r2, r2 = r1.take (i * 2 + m * 2) ++ cells.drop (i * 2) ++ r1.drop (i * 2 + m * 2 + (n * 2 - i * 2)) := ⟨_, rfl⟩
  have hcpB : ∀ (W : World), W.heap = (W1.setRow w.heap.size r1.toArray).heap → ∀ ty dc sc, (Builtin.copy_ #[29, 29] ty #[.slice (some ⟨w.heap.size, (i + m) * 2, none⟩) (n + m - (i + m)) dc, .slice (some ⟨b, i * 2, none⟩) (n - i) sc]).run Tryz.prog W = .ok (goInt ((n - i : Nat) : Int)) (W.setRow w.heap.size r2.toArray) := fun W hW ty dc sc => by
    have e1 : (i + m) * 2 = i * 2 + m * 2 := by omega
    have e2 : (n - i) * 2 = n * 2 - i * 2 := by omega
    have h := run_copy_rowN (P := Tryz.prog) W 29 29 ty 62 w.heap.size ((i + m) * 2) (n + m - (i + m)) dc ⟨b, i * 2, none⟩ (n - i) sc r1.toArray 62 (cells.drop (i * 2)) i0 Tryz.underlying29 hi0 (by rw [hW]; exact setRow_heap W1 _ row _ 62 _ h1N) (by rw [hdl, hmin3, hi1])
      (fun j v hj => row_cell9 (w := W) (b := b) (cur := cur) (by rw [hW, setRow_other _ _ _ _ hNb]; exact h1b) (by
        rw [← hct, List.getElem?_drop, List.getElem?_take] at hj
        split at hj
        · exact hj
        · cases hj)) (by rw [hdl]; simp only [List.size_toArray, hr1l]; omega) (fun v hv => h1c v (List.mem_of_mem_drop hv))
    rw [hmin3, hdl, e1, e2, ← hr2] at h
    rw [e1]
    exact h
  have hGi : ¬ (G = i) := by omega
  have hGim : ¬ (G = i + m) := by omega
  have hci : ¬ (c = i) := by omega
  have hw1 : IntKind.i64.wrap ((i : Int) + (m : Int)) = (i : Int) + (m : Int) := by rw [IntKind.wrap_i64]; omega
  have hb1 : (0 : Int) ≤ (i : Int) + (m : Int) := by omega
  have hin : i ≤ n := by omega
  have htn : ((i : Int) + (m : Int)).toNat = i + m := by omega
  have hb3 : (i : Int) ≤ (n : Int) := by omega
  have hE1 : ((w.alloc (.cells row 62)).drew).heap = W1.heap := by rw [hW1]; rfl
  have hE2 : (((w.alloc (.cells row 62)).drew.setRow w.heap.size r1.toArray).drew).heap = (W1.setRow w.heap.size r1.toArray).heap := by rw [hW1]; rfl
  subst hW1
  have walk : Calls Tryz.prog 98 #[.slice (some ⟨b, 0, none⟩) n c, .int .i64 i, .slice (some ⟨vb, 0, none⟩) m vc] w fun e' w' => e' = .returned (.slice (some ⟨w.heap.size, 0, none⟩) (n + m) G) ∧
      w' = ((((w.alloc (.cells row 62)).drew).setRow w.heap.size r1.toArray).drew).setRow w.heap.size r2.toArray := by
    clear hkk hik hold hG hROW hRt hRl hr1 hr1l hr2
    go_enter Tryz.func98, Tryz.ntmps98
    go_wp2_with (first
      | (at_builtin; refine Lib.wpList_append_run _ rfl _ _ _ _ rfl _ _ rfl rfl _ _ (hrz _) ?_)
      | (at_builtin; refine wpList_copy_runI _ rfl _ _ 29 29 rfl _ _ rfl rfl (hcpA _ hE1 _ _) ?_)
      | (at_builtin; refine wpList_copy_runI _ rfl _ _ 29 29 rfl _ _ rfl rfl (hcpB _ hE2 _ _ _) ?_))
    go_region_law_o (refine step_copy_runI rfl _ _ 29 29 rfl (.slice (some ⟨w.heap.size, (i + m) * 2, none⟩) (n + m - (i + m)) (G - (i + m))) (.slice (some ⟨b, i * 2, none⟩) (n - i) (c - i)) (by simp [Act.eval, Act.put]) (by simp [Act.eval, Act.put]) (hcpB _ hE2 3 (G - (i + m)) (c - i)) ?_)
    go_wp2
    go_ret
    exact ⟨rfl, rfl⟩
  refine walk.mono fun e' W' ⟨h1, h2⟩ => ⟨row.toList, r1, h1, ?_, hRt, hr1, (w.alloc (.cells row 62)).drew, _, rfl, rfl, rfl, ?_, rfl, (((w.alloc (.cells row 62)).drew).setRow w.heap.size r1.toArray).drew, rfl, rfl, rfl, rfl, ?_⟩
  · rw [Array.length_toList]; exact hRl
  · rw [Array.toArray_toList]; rfl
  · rw [h2, hr2]
theorem ins_grow : InsGrow Tryz.prog 98 62 2 := by
  intro w b vb n c i vc cur cur2 cells news hi hnc hroom hn hvb hvc hb hcs hct h1c hb2 hcs2 hct2 h1v
  have hM : news.length = 1 * 2 := by rw [← hct2]; have := take_all9 (n := 1) (k := 2) hcs2 hvc; simpa using this
  have hcl : cells.length = n * 2 := by rw [← hct]; exact take_all9 hcs hnc
  refine (ins_growM w b vb n c i vc 1 cur cur2 cells news hi (by omega) hnc hroom (by omega) hvb hb hcs hct h1c hb2 hcs2 (by rw [Nat.one_mul]; exact hct2) h1v hvc).mono fun e' W' ⟨row, r1, h1, h2, h3, h4, W1, W2, a1, a2, a3, a4, a5, W3, b1, b2, b3, b4, b5⟩ => ?_
  have hG := grownCap_ge w (n + 1) c 62
  have hl := ins_list2 (cells := cells) (news := news) (row := row) (r1 := r1) (I := i * 2) (M := 1 * 2) (N := n * 2) (C := grownCap w (n + 1) c 62 * 2) hcl h2 (by omega) (by omega) hM h3 h4
  have e3 : (n + 1) * 2 = n * 2 + 1 * 2 := by omega
  have n1 : W1.heap[w.heap.size]? = some (.cells row.toArray 62 (0, 0)) := by rw [a4]; exact heap_alloc_new w _
  have n3 : W3.heap[w.heap.size]? = some (.cells r1.toArray 62 (0, 0)) := by rw [b4, a5]; exact setRow_heap W1 _ _ _ 62 _ n1
  have o1 : ∀ k, k < w.heap.size → W3.heap[k]? = w.heap[k]? := fun k hk => by
    rw [b4, a5, setRow_other _ _ _ _ (by omega), a4]; exact heap_alloc_old w _ hk
  have sz : W3.heap.size = w.heap.size + 1 := by rw [b4, a5, setRow_size, a4]; simp
  subst b5
  refine ⟨_, h1, hG, grownCap_le_maxLen w (n + 1) c 62 (by unfold maxLen; omega), ⟨?_, ?_, ?_, ?_, fun k hk _ => ?_⟩, ?_, _, setRow_heap W3 _ _ _ 62 _ n3, ?_, ?_⟩
  · rw [setRow_os, b1, a5, setRow_os, a1]
  · rw [setRow_tape, b2, a5, setRow_tape, a2]
  · rw [setRow_output, b3, a5, setRow_output, a3]
  · rw [setRow_size]; omega
  · rw [setRow_other _ _ _ _ (by omega)]; exact o1 k hk
  · rw [setRow_size]; omega
  · simp only [List.size_toArray]; exact hl.2
  · rw [e3]; exact hl.1
end
theorem c_Insert (l : List Part) (i : Nat) (v : List Part) (hi : i ≤ l.length) (hl : l.length ≤ 1048576) (hv : v.length = 1) : Trip Tryz.prog 98 [(false, 1), (false, 1), (false, 1)] ([.sl true 62 2 (List.map Part.co62 (l))] ++ [.v (.int .i64 ((i : Int)))] ++ [.sl true 62 2 (List.map Part.co62 (v))]) [(false, 1)] [.sl true 62 2 (List.map Part.co62 ((l.take i ++ v ++ l.drop i)))] [] := by
  by_cases h : i = l.length
  · subst h
    have h9 := c_InsertE l (l.length : Int) v rfl hl hv
    rw [List.take_of_length_le (Nat.le_refl _), List.drop_eq_nil_of_le (Nat.le_refl _), List.append_nil]
    exact h9
  · have h9 := Trip.insert (P := Tryz.prog) (f := 98) (e := 62) (sz := 2) (i := i) (l := List.map Part.co62 l) (v := List.map Part.co62 v) ⟨_, Tryz.func98, by decide, by decide⟩ ins_room ins_grow (by simpa using hv) (by simpa using hl) (by simp; omega)
    rw [← List.map_take, ← List.map_drop, ← List.map_append, ← List.map_append] at h9
    exact h9


end Go.Proofs

namespace Go.Proofs
open Go Go.Proofs Go.Ev

theorem c_partsWith (l : List Part) (m : List Part) (F_f : FuncId) (first_f : List (Bool × List D)) (caps_f : List D) (f : Iv → Iv → Iv) (h_f : ∀ (x0 : Iv) (x1 : Iv), FnTrip Tryz.prog F_f first_f caps_f [(true, 2), (true, 2)] (Iv.c x0 ++ Iv.c x1) [(true, 2)] [.v (.int .i64 ((f x0 x1).lo)), .v (.int .i64 ((f x0 x1).hi))]) (hd : ∃ d, Parts.ok d l = true ∧ Parts.isIn d m = true) : Trip Tryz.prog 48 [(false, 1), (false, 1), (false, 1)] ([.sl false 62 2 (List.map Part.c62 (l))] ++ [.sl false 62 2 (List.map Part.c62 (m))] ++ [.fn F_f first_f caps_f]) [(false, 1)] [.sl true 62 2 (List.map Part.co62 (uniI (zip2 (Env.joinW f)) l m m.length))] [] := by
 refine Trip.of Tryz.func48 (by decide) (c := _) rfl rfl (Nat.le_of_ble_eq_true rfl) rfl (AftOk.nil _) <| .sl (t := 0) rfl fun hs1l => .sl (t := 1) rfl fun hs2l => ?_
 obtain ⟨d9, hd9⟩ := hd
 have hk9 := parts_decl hd9.1
 have ha9 := (Parts.get (Parts.ok_in hd9.1)).2.1
 have hb9 := (Parts.get hd9.2).2.1
 have hm9 := parts_uni hd9.2
 refine .seq <| .rs fun k3 => .as rfl <| .z <| .seq <| .rs fun k4 => .mv rfl ?_
 refine .c0 (c_ownParts l (by first | assumption | omega | exact ((parts_uni (Parts.ok_in hd9.1)).small hk9 (by omega)).2 | exact (hm9.getP hk9 (by omega)) | exact ((hu9.1.q _ (partB_lt c1)).pair hk9 (hm9.q j (by omega))).1 | exact ((hu9.1.q _ (partB_lt c1)).pair hk9 (hm9.q j (by omega))).2.1 | exact ((hu9.1.q _ (partB_lt c1)).pair hk9 (hm9.q j (by omega))).2.2.1 | exact ((hu9.1.q _ (partB_lt c1)).pair hk9 (hm9.q j (by omega))).2.2.2 | exact (part_cut hu9.1.rise (hm9.rise.tok j (by omega))).1 | rfl) (by first | assumption | omega | exact ((parts_uni (Parts.ok_in hd9.1)).small hk9 (by omega)).2 | exact (hm9.getP hk9 (by omega)) | exact ((hu9.1.q _ (partB_lt c1)).pair hk9 (hm9.q j (by omega))).1 | exact ((hu9.1.q _ (partB_lt c1)).pair hk9 (hm9.q j (by omega))).2.1 | exact ((hu9.1.q _ (partB_lt c1)).pair hk9 (hm9.q j (by omega))).2.2.1 | exact ((hu9.1.q _ (partB_lt c1)).pair hk9 (hm9.q j (by omega))).2.2.2 | exact (part_cut hu9.1.rise (hm9.rise.tok j (by omega))).1 | rfl)) rfl (.dd .nil) (.own [13, 0] .nil) rfl ?_
 refine .as rfl <| .z <| .seq <| .seq <| .rs fun k5 => .mv rfl <| .g (fun _ τ => ⟨_, .len (.no rfl) rfl (z := (m.length : Int)) t29 rfl rfl rfl (.d _ _) (map_len _ _) rfl τ⟩) <| .mv rfl <| .z ?_
 refine .block ?_
 refine .loop (X := Nat × Nat × Nat) (fun ζ => .of [(2, .one (.d (.fn F_f first_f caps_f))), (7, .one (.ref [13, 0] (ζ.2.1))), (14, .one (.d (.sl false 62 2 (List.map Part.c62 (m))))), (15, .one (.d (.v (.int .i64 ((m.length : Int)))))), (16, .one (.d (.v (.int .i64 ((ζ.1 : Int))))))] [([13, 0], (ζ.2.1, ζ.2.2, .row 62 2 (List.map Part.co62 (uniI (zip2 (Env.joinW f)) l m ζ.1))))]) (fun ζ => ζ.1 ≤ m.length) (fun ζ => m.length - ζ.1) ?_ ?_
 ·skip
  exact .here (0, (k4 + 1), (k4 + 1)) (.of (.cons rfl (.cons (by show SV.one (.ref [13, 0] (k4 + 1)) = SV.one (.ref [13, 0] ((k4 + 1))); first | rfl | simp_all) (.cons rfl (.cons rfl (.cons (svI (show (0) = ((0 : Int)) by first | rfl | omega | exact wrap_le (by omega) (by omega) | (rw [wrap_le (by omega) (by omega)]; omega))) .nil))))) (.cons (rowE (show List.map Part.co62 (l) = List.map Part.co62 (uniI (zip2 (Env.joinW f)) l m 0) by first | with_reducible rfl | rfl | exact congrArg _ (insP_T c1).symm | exact congrArg _ (insP_F c1).symm)) .nil)) (show 0 ≤ m.length by omega)
 ·rintro ⟨j, q6, q7⟩ hI
  have hI : j ≤ m.length := hI
  have hu9 := uni_run (f := f) hd9 (j := j) (by omega)
  dsimp only
  refine .seq <| .rs fun k8 => .bi rfl <| .z <| .seq ?_
  refine .cond (t := decide ((j : Int) < (m.length : Int))) rfl (fun c0 => ?_) (fun c0 => ?_)
  ·have c0 := of_decide_eq_true c0
   refine .skip <| .seq <| .block <| .seq <| .rs fun k9 => .g (fun _ τ => ⟨_, .indexAddr (.no rfl) rfl (j) t29 rfl t62 rfl rfl rfl (.d _ _) rfl rfl rfl (map_get (by first | omega | exact partB_lt c1)) rfl rfl τ⟩) <| .lda t62 rfl (.d _) rfl <| .g (fun _ τ => ⟨_, .alloc (.no rfl) rfl z62 rfl rfl rfl τ⟩) <| .g (fun _ τ => ⟨_, .store (.no rfl) rfl t62 rfl rfl rfl rfl rfl rfl rfl rfl rfl τ⟩) ?_
   refine .z <| .seq <| .rs fun k10 => .mv rfl <| .fp t62 t49 rfl <| .ld t49 rfl (.ptr _ _ _ _ _ rfl) rfl ?_
   refine .g (fun _ τ => ⟨_, .call (.no rfl) rfl [[13, 0]] [([13, 0], (q6, q7, .row 62 2 (List.map Part.co62 (uniI (zip2 (Env.joinW f)) l m j))))] (c_partAt (uniI (zip2 (Env.joinW f)) l m j) ((m.getD j default).token) (by first | assumption | omega | exact ((parts_uni (Parts.ok_in hd9.1)).small hk9 (by omega)).2 | exact (hm9.getP hk9 (by omega)) | exact ((hu9.1.q _ (partB_lt c1)).pair hk9 (hm9.q j (by omega))).1 | exact ((hu9.1.q _ (partB_lt c1)).pair hk9 (hm9.q j (by omega))).2.1 | exact ((hu9.1.q _ (partB_lt c1)).pair hk9 (hm9.q j (by omega))).2.2.1 | exact ((hu9.1.q _ (partB_lt c1)).pair hk9 (hm9.q j (by omega))).2.2.2 | exact (part_cut hu9.1.rise (hm9.rise.tok j (by omega))).1 | rfl)) rfl rfl rfl rfl rfl (.cons (Reads.ref (Frz.of_erase (erase_slo _ _ _ _ _ _ Part.co62_e)) (.head _) (.head _)).gives (.dd .nil)) rfl rfl (fun _ => (ownCons (Owned.v _) (ownCons (Owned.v _) ownNil))) (.own [24, 0] (.own [24, 1] .nil)) (.nil) rfl rfl rfl (AllH.get (.r rfl)) rfl rfl rfl τ⟩) ?_
   refine .g (fun _ τ => ⟨_, .move (.no rfl) rfl rfl rfl rfl τ⟩) <| .g (fun _ τ => ⟨_, .extract (.no rfl) rfl rfl rfl rfl rfl τ⟩) <| .g (fun _ τ => ⟨_, .extract (.no rfl) rfl rfl rfl rfl rfl τ⟩) <| .as rfl <| .as rfl <| .z <| .seq <| .rs fun k11 => .mv rfl ?_
   refine .z ?_
   refine .cond (t := partB (uniI (zip2 (Env.joinW f)) l m j) ((m.getD j default).token)) rfl (fun c1 => ?_) (fun c1 => ?_)
   ·have c1 := c1
    refine .regD (X := Nat) (by kernel_rfl) (fun ζ => .of [(2, .one (.d (.fn F_f first_f caps_f))), (7, .one (.ref [13, 0] (q6))), (14, .one (.d (.sl false 62 2 (List.map Part.c62 (m))))), (15, .one (.d (.v (.int .i64 ((m.length : Int)))))), (16, .one (.d (.v (.int .i64 ((j : Int))))))] [([13, 0], (q6, ζ, .row 62 2 (List.map Part.co62 ((uniI (zip2 (Env.joinW f)) l m j).set (partI (uniI (zip2 (Env.joinW f)) l m j) ((m.getD j default).token)) (Part.mk (((uniI (zip2 (Env.joinW f)) l m j).getD (partI (uniI (zip2 (Env.joinW f)) l m j) ((m.getD j default).token)) default).token) (zip2 (Env.joinW f) (((uniI (zip2 (Env.joinW f)) l m j).getD (partI (uniI (zip2 (Env.joinW f)) l m j) ((m.getD j default).token)) default).table) ((m.getD j default).table)))))))]) [⟨[7], some 28, [], []⟩, ⟨[10], some 29, [], []⟩, ⟨[7], some 30, [], []⟩, ⟨[10], some 31, [], []⟩, ⟨[30, 31], some 32, [[13, 0]], []⟩, ⟨[32], some 33, [], []⟩, ⟨[33], some 34, [[13, 0]], []⟩, ⟨[9], some 35, [], []⟩, ⟨[35], some 36, [[9]], []⟩, ⟨[2], some 37, [], []⟩, ⟨[34, 36, 37], some 38, [[13, 0]], [[38, 0]]⟩, ⟨[28, 29], some 39, [[13, 0]], []⟩, ⟨[39], some 40, [], []⟩, ⟨[40, 38], none, [[13, 0], [38, 0]], [[38, 0], [13, 0]]⟩] (by kernel_rfl) (fun k12 => ?_) ?_
    ·skip
     refine .move (.no rfl) rfl rfl rfl rfl <| .move (.no rfl) rfl rfl rfl rfl <| .move (.no rfl) rfl rfl rfl rfl <| .move (.no rfl) rfl rfl rfl rfl <| .indexAddr (.no rfl) rfl (partI (uniI (zip2 (Env.joinW f)) l m j) ((m.getD j default).token)) t29 rfl t62 rfl rfl rfl (.ref _ _ _ _ _ rfl) rfl rfl rfl (map_get (by first | omega | exact partB_lt c1)) rfl rfl <| .fieldAddr (.no rfl) rfl t62 rfl rfl t60 rfl rfl rfl rfl [] (by simp) (by intro _ _ _ h; cases h) rfl rfl ?_
     refine .load (.no rfl) rfl t60 rfl rfl (At.as (cs' := [.view [13, 0] (q7) (.sl false 98 3 (List.map Env.c98 (((uniI (zip2 (Env.joinW f)) l m j).getD (partI (uniI (zip2 (Env.joinW f)) l m j) ((m.getD j default).token)) default).table)))]) (.eptr _ _ _ _ _ _ _ _ _ rfl (map_get (by first | omega | exact partB_lt c1))) (by simp [Part.co62, D.seen, erase_slo _ _ _ _ _ _ Entry.c_e, erase_slo _ _ _ _ _ _ Env.co98_e])) rfl rfl rfl rfl <| .fieldAddrP (.no rfl) rfl t62 rfl rfl t60 rfl rfl rfl rfl <| .load (.no rfl) rfl t60 rfl rfl (.ptr _ _ _ _ _ rfl) rfl rfl rfl rfl <| .move (.no rfl) rfl rfl rfl rfl ?_
     refine .call (.no rfl) rfl [[13, 0]] [([13, 0], (q6, q7, .row 62 2 (List.map Part.co62 (uniI (zip2 (Env.joinW f)) l m j))))] (c_tableWith (((uniI (zip2 (Env.joinW f)) l m j).getD (partI (uniI (zip2 (Env.joinW f)) l m j) ((m.getD j default).token)) default).table) ((m.getD j default).table) F_f first_f caps_f f h_f (by first | assumption | omega | exact ((parts_uni (Parts.ok_in hd9.1)).small hk9 (by omega)).2 | exact (hm9.getP hk9 (by omega)) | exact ((hu9.1.q _ (partB_lt c1)).pair hk9 (hm9.q j (by omega))).1 | exact ((hu9.1.q _ (partB_lt c1)).pair hk9 (hm9.q j (by omega))).2.1 | exact ((hu9.1.q _ (partB_lt c1)).pair hk9 (hm9.q j (by omega))).2.2.1 | exact ((hu9.1.q _ (partB_lt c1)).pair hk9 (hm9.q j (by omega))).2.2.2 | exact (part_cut hu9.1.rise (hm9.rise.tok j (by omega))).1 | rfl) (by first | assumption | omega | exact ((parts_uni (Parts.ok_in hd9.1)).small hk9 (by omega)).2 | exact (hm9.getP hk9 (by omega)) | exact ((hu9.1.q _ (partB_lt c1)).pair hk9 (hm9.q j (by omega))).1 | exact ((hu9.1.q _ (partB_lt c1)).pair hk9 (hm9.q j (by omega))).2.1 | exact ((hu9.1.q _ (partB_lt c1)).pair hk9 (hm9.q j (by omega))).2.2.1 | exact ((hu9.1.q _ (partB_lt c1)).pair hk9 (hm9.q j (by omega))).2.2.2 | exact (part_cut hu9.1.rise (hm9.rise.tok j (by omega))).1 | rfl) (by first | assumption | omega | exact ((parts_uni (Parts.ok_in hd9.1)).small hk9 (by omega)).2 | exact (hm9.getP hk9 (by omega)) | exact ((hu9.1.q _ (partB_lt c1)).pair hk9 (hm9.q j (by omega))).1 | exact ((hu9.1.q _ (partB_lt c1)).pair hk9 (hm9.q j (by omega))).2.1 | exact ((hu9.1.q _ (partB_lt c1)).pair hk9 (hm9.q j (by omega))).2.2.1 | exact ((hu9.1.q _ (partB_lt c1)).pair hk9 (hm9.q j (by omega))).2.2.2 | exact (part_cut hu9.1.rise (hm9.rise.tok j (by omega))).1 | rfl) (by first | assumption | omega | exact ((parts_uni (Parts.ok_in hd9.1)).small hk9 (by omega)).2 | exact (hm9.getP hk9 (by omega)) | exact ((hu9.1.q _ (partB_lt c1)).pair hk9 (hm9.q j (by omega))).1 | exact ((hu9.1.q _ (partB_lt c1)).pair hk9 (hm9.q j (by omega))).2.1 | exact ((hu9.1.q _ (partB_lt c1)).pair hk9 (hm9.q j (by omega))).2.2.1 | exact ((hu9.1.q _ (partB_lt c1)).pair hk9 (hm9.q j (by omega))).2.2.2 | exact (part_cut hu9.1.rise (hm9.rise.tok j (by omega))).1 | rfl)) rfl rfl rfl rfl rfl (.cons (Reads.view (.head _) (.head _)).gives (.dd (.dd .nil))) rfl rfl (fun _ => (ownCons (Owned.map _ _ _ _ Env.co98_o) ownNil)) (.own [38, 0] .nil) (.nil) rfl rfl rfl (AllH.get (.r rfl)) rfl rfl rfl ?_
     refine .indexAddr (.no rfl) rfl (partI (uniI (zip2 (Env.joinW f)) l m j) ((m.getD j default).token)) t29 rfl t62 rfl rfl rfl (.ref _ _ _ _ _ rfl) rfl rfl rfl (map_get (by first | omega | exact partB_lt c1)) rfl rfl <| .fieldAddr (.no rfl) rfl t62 rfl rfl t60 rfl rfl rfl rfl [] (by simp) (by intro _ _ _ h; cases h) rfl rfl ?_
     refine .storeE (.no rfl) rfl (els' := List.map Part.co62 ((uniI (zip2 (Env.joinW f)) l m j).set (partI (uniI (zip2 (Env.joinW f)) l m j) ((m.getD j default).token)) (Part.mk (((uniI (zip2 (Env.joinW f)) l m j).getD (partI (uniI (zip2 (Env.joinW f)) l m j) ((m.getD j default).token)) default).token) (zip2 (Env.joinW f) (((uniI (zip2 (Env.joinW f)) l m j).getD (partI (uniI (zip2 (Env.joinW f)) l m j) ((m.getD j default).token)) default).table) ((m.getD j default).table))))) t60 rfl rfl rfl rfl (map_get (by first | omega | exact partB_lt c1)) rfl rfl (.cons _ _ _ _ _ _ (.ref _ _ _ _ _ _ rfl) .nil) rfl (Nat.le_of_ble_eq_true rfl) (set_map _ _ _ (Part.mk (((uniI (zip2 (Env.joinW f)) l m j).getD (partI (uniI (zip2 (Env.joinW f)) l m j) ((m.getD j default).token)) default).token) (zip2 (Env.joinW f) (((uniI (zip2 (Env.joinW f)) l m j).getD (partI (uniI (zip2 (Env.joinW f)) l m j) ((m.getD j default).token)) default).table) ((m.getD j default).table))) _ rfl) rfl rfl ?_
     exact .fin (k12 + 1 + 1 + 1 + 1 + 1 + 1 + 1 + 1 + 1 + 1 + 1 + 1 + 1) (.of (.r rfl) (.r rfl))
    intro g13
    refine .rs fun k14 => .bi rfl <| .mv rfl <| .z ?_
    exact .here ((j + 1), q6, g13) (.of (.cons rfl (.cons rfl (.cons rfl (.cons rfl (.cons (svI (show (IntKind.wrap .i64 ((j : Int) + 1)) = (((j + 1) : Int)) by first | rfl | omega | exact wrap_le (by omega) (by omega) | (rw [wrap_le (by omega) (by omega)]; omega))) .nil))))) (.cons (rowE (show List.map Part.co62 ((uniI (zip2 (Env.joinW f)) l m j).set (partI (uniI (zip2 (Env.joinW f)) l m j) ((m.getD j default).token)) (Part.mk (((uniI (zip2 (Env.joinW f)) l m j).getD (partI (uniI (zip2 (Env.joinW f)) l m j) ((m.getD j default).token)) default).token) (zip2 (Env.joinW f) (((uniI (zip2 (Env.joinW f)) l m j).getD (partI (uniI (zip2 (Env.joinW f)) l m j) ((m.getD j default).token)) default).table) ((m.getD j default).table)))) = List.map Part.co62 (uniI (zip2 (Env.joinW f)) l m (j + 1)) by first | with_reducible rfl | rfl | exact congrArg _ (insP_T c1).symm | exact congrArg _ (insP_F c1).symm)) .nil)) ⟨(show (j + 1) ≤ m.length by omega), (show m.length - (j + 1) < m.length - j by omega)⟩
   ·have c1 := c1
    refine .rs fun k15 => .mv rfl <| .mv rfl <| .lda t62 rfl (.ptr _ _ _ _ _ rfl) rfl <| .c0 (c_pown (m.getD j default) (by first | assumption | omega | exact ((parts_uni (Parts.ok_in hd9.1)).small hk9 (by omega)).2 | exact (hm9.getP hk9 (by omega)) | exact ((hu9.1.q _ (partB_lt c1)).pair hk9 (hm9.q j (by omega))).1 | exact ((hu9.1.q _ (partB_lt c1)).pair hk9 (hm9.q j (by omega))).2.1 | exact ((hu9.1.q _ (partB_lt c1)).pair hk9 (hm9.q j (by omega))).2.2.1 | exact ((hu9.1.q _ (partB_lt c1)).pair hk9 (hm9.q j (by omega))).2.2.2 | exact (part_cut hu9.1.rise (hm9.rise.tok j (by omega))).1 | rfl)) rfl (.dd (.dd .nil)) (.own [44, 0] (.own [44, 1] .nil)) rfl ?_
    refine .g (fun _ τ => ⟨_, .buildSlice (.no rfl) rfl (els := [[.sl true 115 2 (List.map Entry.c ((m.getD j default).token)), .sl true 98 3 (List.map Env.co98 ((m.getD j default).table))]]) t29 rfl z62 rfl rfl rfl rfl rfl rfl rfl rfl (by simp [i62]) (.cons _ _ _ _ _ _ (.ref _ _ _ _ _ _ rfl) (.cons _ _ _ _ _ _ (.ref _ _ _ _ _ _ rfl) .nil)) rfl rfl rfl τ⟩) ?_
    refine .g (fun _ τ => ⟨_, .call (.no rfl) rfl [] [([13, 0], (q6, q7, .row 62 2 (List.map Part.co62 (uniI (zip2 (Env.joinW f)) l m j)))), ([45], (k15 + 1 + 1 + 1 + 1, k15 + 1 + 1 + 1 + 1, .row 62 2 ([[.sl true 115 2 (List.map Entry.c ((m.getD j default).token)), .sl true 98 3 (List.map Env.co98 ((m.getD j default).table))]])))] (c_Insert (uniI (zip2 (Env.joinW f)) l m j) (partI (uniI (zip2 (Env.joinW f)) l m j) ((m.getD j default).token)) [(m.getD j default)] (by first | assumption | omega | exact ((parts_uni (Parts.ok_in hd9.1)).small hk9 (by omega)).2 | exact (hm9.getP hk9 (by omega)) | exact ((hu9.1.q _ (partB_lt c1)).pair hk9 (hm9.q j (by omega))).1 | exact ((hu9.1.q _ (partB_lt c1)).pair hk9 (hm9.q j (by omega))).2.1 | exact ((hu9.1.q _ (partB_lt c1)).pair hk9 (hm9.q j (by omega))).2.2.1 | exact ((hu9.1.q _ (partB_lt c1)).pair hk9 (hm9.q j (by omega))).2.2.2 | exact (part_cut hu9.1.rise (hm9.rise.tok j (by omega))).1 | rfl) (by first | assumption | omega | exact ((parts_uni (Parts.ok_in hd9.1)).small hk9 (by omega)).2 | exact (hm9.getP hk9 (by omega)) | exact ((hu9.1.q _ (partB_lt c1)).pair hk9 (hm9.q j (by omega))).1 | exact ((hu9.1.q _ (partB_lt c1)).pair hk9 (hm9.q j (by omega))).2.1 | exact ((hu9.1.q _ (partB_lt c1)).pair hk9 (hm9.q j (by omega))).2.2.1 | exact ((hu9.1.q _ (partB_lt c1)).pair hk9 (hm9.q j (by omega))).2.2.2 | exact (part_cut hu9.1.rise (hm9.rise.tok j (by omega))).1 | rfl) (by first | assumption | omega | exact ((parts_uni (Parts.ok_in hd9.1)).small hk9 (by omega)).2 | exact (hm9.getP hk9 (by omega)) | exact ((hu9.1.q _ (partB_lt c1)).pair hk9 (hm9.q j (by omega))).1 | exact ((hu9.1.q _ (partB_lt c1)).pair hk9 (hm9.q j (by omega))).2.1 | exact ((hu9.1.q _ (partB_lt c1)).pair hk9 (hm9.q j (by omega))).2.2.1 | exact ((hu9.1.q _ (partB_lt c1)).pair hk9 (hm9.q j (by omega))).2.2.2 | exact (part_cut hu9.1.rise (hm9.rise.tok j (by omega))).1 | rfl)) rfl rfl rfl rfl rfl (.cons (.ref (.head _)) (.dd (.cons (.ref (.tail _ (.head _))) .nil))) rfl rfl (fun h => absurd rfl h) (.own [46, 0] .nil) (.nil) rfl rfl rfl (AllH.get (.r rfl)) rfl rfl rfl τ⟩) ?_
    refine .as rfl <| .z <| .movRow 7 [46, 0] [13, 0] rfl rfl (by decide) fun k16 => .rs fun k17 => .bi rfl <| .mv rfl <| .z ?_
    exact .here ((j + 1), k16, k16) (.of (.cons rfl (.cons rfl (.cons rfl (.cons rfl (.cons (svI (show (IntKind.wrap .i64 ((j : Int) + 1)) = (((j + 1) : Int)) by first | rfl | omega | exact wrap_le (by omega) (by omega) | (rw [wrap_le (by omega) (by omega)]; omega))) .nil))))) (.cons (rowE (show List.map Part.co62 (((uniI (zip2 (Env.joinW f)) l m j).take (partI (uniI (zip2 (Env.joinW f)) l m j) ((m.getD j default).token)) ++ [(m.getD j default)] ++ (uniI (zip2 (Env.joinW f)) l m j).drop (partI (uniI (zip2 (Env.joinW f)) l m j) ((m.getD j default).token)))) = List.map Part.co62 (uniI (zip2 (Env.joinW f)) l m (j + 1)) by first | with_reducible rfl | rfl | exact congrArg _ (insP_T c1).symm | exact congrArg _ (insP_F c1).symm)) .nil)) ⟨(show (j + 1) ≤ m.length by omega), (show m.length - (j + 1) < m.length - j by omega)⟩
  ·have c0 := of_decide_eq_false c0
   refine .exit <| .seq <| .rs fun k18 => .mv rfl <| .as rfl <| .z <| .ret ?_
   have e19 : (uniI (zip2 (Env.joinW f)) l m j) = (uniI (zip2 (Env.joinW f)) l m m.length) := by (have hj9 : j = m.length := (by omega); rw [hj9])
   exact fin1 (.inr rfl) [] [([13, 0], (q6, q7, .row 62 2 (List.map Part.co62 (uniI (zip2 (Env.joinW f)) l m m.length))))] (.one rfl .nil) (.cons (.ref (.head _)) .nil) rfl rfl (.cons (rowE (congrArg (List.map Part.co62) e19)) .nil)
theorem c_few (l : List Part) : Trip Tryz.prog 47 [(false, 1)] ([.sl true 62 2 (List.map Part.co62 (l))]) [(false, 1)] [.sl true 62 2 (List.map Part.co62 (fewV l))] [] := by
 refine Trip.of Tryz.func47 (by decide) (c := _) rfl rfl (Nat.le_of_ble_eq_true rfl) rfl (AftOk.nil _) <| .seq <| .rs fun k1 => .as rfl <| .z <| .seq <| .seq <| .rs fun k2 => .mv rfl ?_
 refine .g (fun _ τ => ⟨_, .len (.no rfl) rfl (z := (l.length : Int)) t29 rfl rfl rfl (.ref _ _ _ _ _ rfl) (map_len _ _) rfl τ⟩) <| .bi rfl <| .z ?_
 refine .cond (t := decide ((l.length : Int) > 100)) rfl (fun c0 => ?_) (fun c0 => ?_)
 ·have c0 := of_decide_eq_true c0
  refine .seq <| .rs fun k3 => .as rfl <| .z <| .ret ?_
  exact fin0 (.inr rfl) (.one rfl .nil) (.cons (Gives.nil' (by (rw [fewV_no c0]; rfl))) .nil) rfl
 ·have c0 := of_decide_eq_false c0
  refine .skip <| .seq <| .rs fun k4 => .mv rfl <| .as rfl <| .z <| .ret ?_
  have e5 : (l) = (fewV l) := by (rw [fewV_yes c0])
  exact fin1 (.inr rfl) [] [([0, 0, 0], (0, 0, .row 62 2 (List.map Part.co62 (fewV l))))] (.one rfl .nil) (.cons (.ref (.head _)) .nil) rfl rfl (.cons (rowE (congrArg (List.map Part.co62) e5)) .nil)
end Go.Proofs

namespace Go.Proofs
open Go Go.Proofs Go.Ev

theorem c_l9Union (a : List Part) (b : List Part) (w : Bool) (s : List Int) (hd : ∃ d, Parts.ok d a = true ∧ Parts.isIn d b = true) (hl : s.length ≤ 1048576) : Trip Tryz.prog 42 [(false, 1), (false, 1), (false, 1), (false, 1)] ([.sl false 62 2 (List.map Part.c62 (a))] ++ [.sl false 62 2 (List.map Part.c62 (b))] ++ [.v (.bool (w))] ++ [.sl false 2 1 (List.map i64c (s))]) [(false, 1)] [.sl false 62 2 (List.map Part.c62 (uniS (putF w s) a b b.length))] [] := by
 refine Trip.of Tryz.func42 (by decide) (c := _) rfl rfl (Nat.le_of_ble_eq_true rfl) rfl (AftOk.nil _) <| .sl (t := 0) rfl fun hs1l => .sl (t := 1) rfl fun hs2l => .sl (t := 3) rfl fun hs3l => ?_
 obtain ⟨d9, hd9⟩ := hd
 have hk9 := parts_decl hd9.1
 have ha9 := (Parts.get (Parts.ok_in hd9.1)).2.1
 have hb9 := (Parts.get hd9.2).2.1
 have hm9 := parts_uni hd9.2
 refine .seq <| .rs fun k4 => .as rfl <| .z <| .seq <| .rs fun k5 => .mv rfl <| .as rfl <| .z ?_
 refine .seq <| .seq <| .rs fun k6 => .as rfl <| .z <| .block ?_
 refine .loop (X := Nat) (fun ζ => .of [(1, .one (.d (.sl false 62 2 (List.map Part.c62 (b))))), (2, .one (.d (.v (.bool (w))))), (3, .one (.d (.sl false 2 1 (List.map i64c (s))))), (9, .one (.d (.sl false 62 2 (List.map Part.c62 (uniS (putF w s) a b ζ))))), (10, .one (.d (.v (.int .i64 ((ζ : Int))))))] []) (fun ζ => ζ ≤ b.length) (fun ζ => b.length - ζ) ?_ ?_
 ·skip
  exact .here 0 (.of (.cons rfl (.cons rfl (.cons rfl (.cons (by show SV.one (.d (.sl false 62 2 (List.map Part.c62 (a)))) = SV.one (.d (.sl false 62 2 (List.map Part.c62 (uniS (putF w s) a b 0)))); first | rfl | with_reducible rfl) (.cons (svI (show (0) = ((0 : Int)) by first | rfl | omega | exact wrap_le (by omega) (by omega) | (rw [wrap_le (by omega) (by omega)]; omega))) .nil))))) .nil) (show 0 ≤ b.length by omega)
 ·rintro j hI
  have hI : j ≤ b.length := hI
  have hu9 := uniS_run (w := w) (s := s) hd9 (j := j) (by omega)
  refine .seq <| .seq <| .rs fun k7 => .mv rfl <| .mv rfl <| .g (fun _ τ => ⟨_, .len (.no rfl) rfl (z := (b.length : Int)) t29 rfl rfl rfl (.d _ _) (map_len _ _) rfl τ⟩) <| .bi rfl <| .z ?_
  refine .cond (t := decide ((j : Int) < (b.length : Int))) rfl (fun c0 => ?_) (fun c0 => ?_)
  ·have c0 := of_decide_eq_true c0
   refine .skip <| .seq <| .block <| .rs fun k8 => .mv rfl <| .mv rfl <| .mv rfl <| .g (fun _ τ => ⟨_, .indexAddr (.no rfl) rfl (j) t29 rfl t62 rfl rfl rfl (.d _ _) rfl rfl rfl (map_get (by omega)) rfl rfl τ⟩) <| .lda t62 rfl (.d _) rfl ?_
   refine .mv rfl <| .mv rfl ?_
   refine .c0 (c_l9Put (uniS (putF w s) a b j) (b.getD j default) w s (by first | exact hu9.1.rise.tok | exact hm9.rise.tok j (by omega) | (intro i hi; exact (hu9.1.q i hi).pair hk9 (hm9.q j (by omega))) | omega | exact hl) (by first | exact hu9.1.rise.tok | exact hm9.rise.tok j (by omega) | (intro i hi; exact (hu9.1.q i hi).pair hk9 (hm9.q j (by omega))) | omega | exact hl) (by first | exact hu9.1.rise.tok | exact hm9.rise.tok j (by omega) | (intro i hi; exact (hu9.1.q i hi).pair hk9 (hm9.q j (by omega))) | omega | exact hl) (by first | exact hu9.1.rise.tok | exact hm9.rise.tok j (by omega) | (intro i hi; exact (hu9.1.q i hi).pair hk9 (hm9.q j (by omega))) | omega | exact hl) (by first | exact hu9.1.rise.tok | exact hm9.rise.tok j (by omega) | (intro i hi; exact (hu9.1.q i hi).pair hk9 (hm9.q j (by omega))) | omega | exact hl)) rfl (.dd (.dd (.dd (.dd (.dd .nil))))) (.frz [25, 0] (Frz.of_erase (erase_slo _ _ _ _ _ _ Part.c62_e)) .nil) rfl ?_
   refine .as rfl <| .z <| .rs fun k9 => .mv rfl <| .bi rfl <| .as rfl <| .z ?_
   exact .here (j + 1) (.of (.cons rfl (.cons rfl (.cons rfl (.cons (by show SV.one (.d (.sl false 62 2 (List.map Part.c62 (putV (putF w s) (uniS (putF w s) a b j) (b.getD j default))))) = SV.one (.d (.sl false 62 2 (List.map Part.c62 (uniS (putF w s) a b (j + 1))))); first | rfl | with_reducible rfl) (.cons (svI (show (IntKind.wrap .i64 ((j : Int) + 1)) = (((j + 1) : Int)) by first | rfl | omega | exact wrap_le (by omega) (by omega) | (rw [wrap_le (by omega) (by omega)]; omega))) .nil))))) .nil) ⟨(show (j + 1) ≤ b.length by omega), (show b.length - (j + 1) < b.length - j by omega)⟩
  ·have c0 := of_decide_eq_false c0
   refine .exit <| .seq <| .rs fun k10 => .mv rfl <| .as rfl <| .z <| .ret ?_
   have e11 : (uniS (putF w s) a b j) = (uniS (putF w s) a b b.length) := by (have hj9 : j = b.length := (by omega); rw [hj9])
   have hc12 := eq1 (fun z1 => SV.one (.d (.sl false 62 2 (List.map Part.c62 (z1))))) e11
   exact fin0 (.inr rfl) (.one (c := .d (.sl false 62 2 (List.map Part.c62 (uniS (putF w s) a b b.length)))) (hc12) .nil) (.dd .nil) rfl
theorem c_sPartsJoin (d : Decl) (a : List Part) (b : List Part) (hs : ∀ x ∈ Decl.names d, x.size ≤ 9223372036854775807) (hd : d.vars.length ≤ 1048576 ∧ d.flags.length ≤ 1048576 ∧ d.arrays.length ≤ 1048576) (hx : SmallP a) (hy : SmallP b) : Trip Tryz.prog 9 [(true, 3), (false, 1), (false, 1)] (Decl.c33 d ++ [.sl false 62 2 (List.map Part.c62 (a))] ++ [.sl false 62 2 (List.map Part.c62 (b))]) [(false, 1)] [.sl true 62 2 (List.map Part.co62 (Parts.joinIn d a b))] [] := by
 refine Trip.of Tryz.func9 (by decide) (c := _) rfl rfl (Nat.le_of_ble_eq_true rfl) rfl (AftOk.nil _) <| .sla (t := 0) 0 rfl rfl fun hs1l => .sla (t := 0) 1 rfl rfl fun hs2l => .sla (t := 0) 2 rfl rfl fun hs3l => .sl (t := 1) rfl fun hs4l => .sl (t := 2) rfl fun hs5l => .seq <| .rs fun k6 => .g (fun _ τ => ⟨_, .box (.no rfl) rfl rfl rfl rfl rfl τ⟩) ?_
 refine .as rfl <| .z <| .seq <| .seq ?_
 refine .reg (X := Unit) (fun ζ => .of [(1, .one (.d (.sl false 62 2 (List.map Part.c62 (a))))), (2, .one (.d (.sl false 62 2 (List.map Part.c62 (b))))), (16, .one (.d (.v (.bool ((!(Parts.ok d a) || !(Parts.ok d b)))))))] []) [⟨[3], some 7, [[3]], []⟩, ⟨[1], some 8, [], []⟩, ⟨[7, 8], some 9, [], []⟩, ⟨[9], some 10, [], []⟩, ⟨[10], some 11, [], []⟩, ⟨[11, 3], some 12, [[3]], []⟩, ⟨[11, 2], some 13, [], []⟩, ⟨[11, 12, 13], some 14, [], []⟩, ⟨[11, 14], some 15, [], []⟩, ⟨[11, 15], some 16, [], []⟩] (fun k7 => ?_) ?_
 ·skip
  refine .load (.no rfl) rfl t33 rfl rfl (.ptr _ _ _ _ _ rfl) rfl rfl rfl rfl <| .move (.no rfl) rfl rfl rfl rfl ?_
  refine .call (.no rfl) rfl [] [] (c_sPartsOk d a (by first | assumption | exact ⟨d, h2⟩ | exact Nat.zero_le _ | exact ((uniS_run h2 (Nat.le_refl _)).1.small (parts_decl h2.1) (by have := (uniS_run (w := false) (s := []) h2 (Nat.le_refl b.length)).2; omega)).2 | (have := (uniS_run (w := false) (s := []) h2 (Nat.le_refl b.length)).2; omega)) (by first | assumption | exact ⟨d, h2⟩ | exact Nat.zero_le _ | exact ((uniS_run h2 (Nat.le_refl _)).1.small (parts_decl h2.1) (by have := (uniS_run (w := false) (s := []) h2 (Nat.le_refl b.length)).2; omega)).2 | (have := (uniS_run (w := false) (s := []) h2 (Nat.le_refl b.length)).2; omega)) (by first | assumption | exact ⟨d, h2⟩ | exact Nat.zero_le _ | exact ((uniS_run h2 (Nat.le_refl _)).1.small (parts_decl h2.1) (by have := (uniS_run (w := false) (s := []) h2 (Nat.le_refl b.length)).2; omega)).2 | (have := (uniS_run (w := false) (s := []) h2 (Nat.le_refl b.length)).2; omega))) rfl rfl rfl rfl rfl (.dd (.dd (.dd (.dd .nil)))) rfl rfl (fun h => absurd rfl h) (.own [9, 0] .nil) (.nil) rfl rfl rfl (by simp) rfl rfl rfl ?_
  refine .un (.no rfl) rfl rfl rfl rfl rfl <| .moveB (.no rfl) rfl rfl rfl rfl fun b8 g1_4 => ?_
  cases b8
  ·skip
   refine .load (.on rfl rfl rfl rfl rfl) rfl t33 rfl rfl (.ptr _ _ _ _ _ rfl) rfl rfl rfl rfl <| .move (.on rfl rfl rfl rfl rfl) rfl rfl rfl rfl ?_
   refine .call (.on rfl rfl rfl rfl rfl) rfl [] [] (c_sPartsOk d b (by first | assumption | exact ⟨d, h2⟩ | exact Nat.zero_le _ | exact ((uniS_run h2 (Nat.le_refl _)).1.small (parts_decl h2.1) (by have := (uniS_run (w := false) (s := []) h2 (Nat.le_refl b.length)).2; omega)).2 | (have := (uniS_run (w := false) (s := []) h2 (Nat.le_refl b.length)).2; omega)) (by first | assumption | exact ⟨d, h2⟩ | exact Nat.zero_le _ | exact ((uniS_run h2 (Nat.le_refl _)).1.small (parts_decl h2.1) (by have := (uniS_run (w := false) (s := []) h2 (Nat.le_refl b.length)).2; omega)).2 | (have := (uniS_run (w := false) (s := []) h2 (Nat.le_refl b.length)).2; omega)) (by first | assumption | exact ⟨d, h2⟩ | exact Nat.zero_le _ | exact ((uniS_run h2 (Nat.le_refl _)).1.small (parts_decl h2.1) (by have := (uniS_run (w := false) (s := []) h2 (Nat.le_refl b.length)).2; omega)).2 | (have := (uniS_run (w := false) (s := []) h2 (Nat.le_refl b.length)).2; omega))) rfl rfl rfl rfl rfl (.dd (.dd (.dd (.dd .nil)))) rfl rfl (fun h => absurd rfl h) (.own [14, 0] .nil) (.nil) rfl rfl rfl (by simp) rfl rfl rfl ?_
   refine .un (.on rfl rfl rfl rfl rfl) rfl rfl rfl rfl rfl <| .pick (.no rfl) rfl rfl rfl rfl rfl ?_
   exact .fin () (.of (.cons rfl (.cons rfl (.cons (svB (show (!(Parts.ok d b)) = ((!(Parts.ok d a) || !(Parts.ok d b))) by first | (simp only [g1_4, Bool.true_or, Bool.false_or, Bool.true_and, Bool.false_and, Bool.not_true, Bool.not_false]; done) | (simp [g1_4]; done) | (exfalso; simp_all; done))) .nil))) .nil)
  ·skip
   refine .off rfl rfl rfl rfl rfl rfl rfl <| .off rfl rfl rfl rfl rfl rfl rfl <| .off rfl rfl rfl rfl rfl rfl rfl <| .off rfl rfl rfl rfl rfl rfl rfl <| .pick (.no rfl) rfl rfl rfl rfl rfl ?_
   exact .fin () (.of (.cons rfl (.cons rfl (.cons (svB (show (true) = ((!(Parts.ok d a) || !(Parts.ok d b))) by first | (simp only [g1_4, Bool.true_or, Bool.false_or, Bool.true_and, Bool.false_and, Bool.not_true, Bool.not_false]; done) | (simp [g1_4]; done) | (exfalso; simp_all; done))) .nil))) .nil)
 intro _
 refine .cond (t := (!(Parts.ok d a) || !(Parts.ok d b))) rfl (fun c0 => ?_) (fun c0 => ?_)
 ·have c0 := (oT (nT id) (nT id)) c0
  refine .seq <| .rs fun k9 => .as rfl <| .z <| .ret ?_
  exact fin0 (.inr rfl) (.one rfl .nil) (.cons (Gives.nil' (by (rw [pjoin_no c0]; rfl))) .nil) rfl
 ·have c0 := (oF (nF id) (nF id)) c0
  have h2 : Parts.ok d a = true ∧ Parts.isIn d b = true := ⟨c0.1, by rw [← Parts.ok_two c0.1]; exact c0.2⟩
  have ha9 := (Parts.get (Parts.ok_in h2.1)).2.1
  have hb9 := (Parts.get h2.2).2.1
  refine .skip <| .seq <| .rs fun k10 => .mv rfl <| .mv rfl <| .c0 (c_l9Union a b false [] (by first | assumption | exact ⟨d, h2⟩ | exact Nat.zero_le _ | exact ((uniS_run h2 (Nat.le_refl _)).1.small (parts_decl h2.1) (by have := (uniS_run (w := false) (s := []) h2 (Nat.le_refl b.length)).2; omega)).2 | (have := (uniS_run (w := false) (s := []) h2 (Nat.le_refl b.length)).2; omega)) (by first | assumption | exact ⟨d, h2⟩ | exact Nat.zero_le _ | exact ((uniS_run h2 (Nat.le_refl _)).1.small (parts_decl h2.1) (by have := (uniS_run (w := false) (s := []) h2 (Nat.le_refl b.length)).2; omega)).2 | (have := (uniS_run (w := false) (s := []) h2 (Nat.le_refl b.length)).2; omega))) rfl (.dd (.dd (.dd (.cons (.nil _ _ _) .nil)))) (.own [19, 0] .nil) rfl ?_
  refine .c0 (c_l9Fresh (uniS (putF false []) a b b.length) (by first | assumption | exact ⟨d, h2⟩ | exact Nat.zero_le _ | exact ((uniS_run h2 (Nat.le_refl _)).1.small (parts_decl h2.1) (by have := (uniS_run (w := false) (s := []) h2 (Nat.le_refl b.length)).2; omega)).2 | (have := (uniS_run (w := false) (s := []) h2 (Nat.le_refl b.length)).2; omega)) (by first | assumption | exact ⟨d, h2⟩ | exact Nat.zero_le _ | exact ((uniS_run h2 (Nat.le_refl _)).1.small (parts_decl h2.1) (by have := (uniS_run (w := false) (s := []) h2 (Nat.le_refl b.length)).2; omega)).2 | (have := (uniS_run (w := false) (s := []) h2 (Nat.le_refl b.length)).2; omega))) rfl (.dd .nil) (.own [20, 0] .nil) rfl <| .as rfl <| .z <| .ret ?_
  have e11 : (fewV (uniS (putF false []) a b b.length)) = (Parts.joinIn d a b) := by (rw [pjoin_yes2 h2, ← pjoin_S h2])
  exact fin1 (.inr rfl) [] [([20, 0], (k10 + 1 + 1 + 1, k10 + 1 + 1 + 1, .row 62 2 (List.map Part.co62 (Parts.joinIn d a b))))] (.one rfl .nil) (.cons (.ref (.head _)) .nil) rfl rfl (.cons (rowE (congrArg (List.map Part.co62) e11)) .nil)
theorem c_PartsJoin (d : Decl) (a : List Part) (b : List Part) (hs : ∀ x ∈ Decl.names d, x.size ≤ 9223372036854775807) (hb : d.vars.length ≤ 1048576 ∧ d.flags.length ≤ 1048576 ∧ d.arrays.length ≤ 1048576) : Trip Tryz.prog 12 [(true, 3), (false, 1), (false, 1)] (Decl.c33 d ++ [.sl false 62 2 (List.map Part.c62 (a))] ++ [.sl false 62 2 (List.map Part.c62 (b))]) [(false, 1)] [.sl true 62 2 (List.map Part.co62 (Parts.joinIn d a b))] [] := by
 refine Trip.of Tryz.func12 (by decide) (c := _) rfl rfl (Nat.le_of_ble_eq_true rfl) rfl (AftOk.nil _) <| .sla (t := 0) 0 rfl rfl fun hs1l => .sla (t := 0) 1 rfl rfl fun hs2l => .sla (t := 0) 2 rfl rfl fun hs3l => .sl (t := 1) rfl fun hs4l => .sl (t := 2) rfl fun hs5l => .seq <| .rs fun k6 => .g (fun _ τ => ⟨_, .box (.no rfl) rfl rfl rfl rfl rfl τ⟩) ?_
 refine .as rfl <| .z <| .seq <| .seq <| .rs fun k7 => .lda t33 rfl (.ptr _ _ _ _ _ rfl) rfl <| .mv rfl <| .mv rfl <| .c0 (c_areBoth d a b (by first | assumption | exact ⟨d, h2⟩) (by first | assumption | exact ⟨d, h2⟩)) rfl (.dd (.dd (.dd (.dd (.dd .nil))))) (.own [10, 0] .nil) rfl ?_
 refine .un rfl <| .z ?_
 refine .cond (t := !(Parts.ok d a && Parts.isIn d b)) rfl (fun c0 => ?_) (fun c0 => ?_)
 ·have c0 := (nT (aF id id)) c0
  have h3 : Parts.ok d a = false ∨ Parts.isIn d b = false := (by cases h8 : Parts.ok d a <;> cases h9 : Parts.isIn d b <;> simp_all)
  refine .seq <| .rs fun k8 => .as rfl <| .z <| .ret ?_
  exact fin0 (.inr rfl) (.one rfl .nil) (.cons (Gives.nil' (by (rw [pjoin_no2 h3]; rfl))) .nil) rfl
 ·have c0 := (nF (aT id id)) c0
  have h2 : Parts.ok d a = true ∧ Parts.isIn d b = true := (by simpa [Bool.and_eq_true] using c0)
  refine .skip <| .seq <| .rs fun k9 => .mv rfl <| .mv rfl <| .c0 (c_partsWith a b 49 [] [] (fun x0 x1 => Iv.joinOk x0 x1) (fun x0 x1 => c_IvJoin x0 x1) (by first | assumption | exact ⟨d, h2⟩)) rfl (.dd (.dd (.dd .nil))) (.own [14, 0] .nil) rfl <| .g (fun _ τ => ⟨_, .call (.no rfl) rfl [] [([14, 0], (k9 + 1 + 1, k9 + 1 + 1, .row 62 2 (List.map Part.co62 (uniI (zip2 (Env.joinW (fun x0 x1 => Iv.joinOk x0 x1))) a b b.length))))] (c_few (uniI (zip2 (Env.joinW (fun x0 x1 => Iv.joinOk x0 x1))) a b b.length)) rfl rfl rfl rfl rfl (.cons (.ref (.head _)) .nil) rfl rfl (fun h => absurd rfl h) (.own [15, 0] .nil) (.nil) rfl rfl rfl (AllH.get (.r rfl)) rfl rfl rfl τ⟩) <| .as rfl <| .z ?_
  refine .ret ?_
  have e10 : (fewV (uniI (zip2 (Env.joinW (fun x0 x1 => Iv.joinOk x0 x1))) a b b.length)) = (Parts.joinIn d a b) := by (rw [pjoin_yes2 h2])
  exact fin1 (.inr rfl) [] [([15, 0], (k9 + 1 + 1 + 1, k9 + 1 + 1 + 1, .row 62 2 (List.map Part.co62 (Parts.joinIn d a b))))] (.one rfl .nil) (.cons (.ref (.head _)) .nil) rfl rfl (.cons (rowE (congrArg (List.map Part.co62) e10)) .nil)
end Go.Proofs

namespace Go.Proofs
open Go Go.Proofs Go.Ev

set_option maxHeartbeats 8000000 in
theorem c_FnExactPartsJoin (d : Decl) (a : List Part) (b : List Part) (hs : ∀ x ∈ Decl.names d, x.size ≤ 9223372036854775807) (hv : ∀ x ∈ d.vars, 0 ≤ strW x ∧ strW x ≤ 9223372036854775807) (hf : ∀ x ∈ d.flags, 0 ≤ strW x ∧ strW x ≤ 9223372036854775807) (ha : ∀ x ∈ d.arrays, 0 ≤ arrW x ∧ arrW x ≤ 9223372036854775807) : Trip Tryz.prog 3 [(true, 3), (false, 1), (false, 1)] (Decl.c25 d ++ [.sl false 74 2 (List.map Part.c74 (a))] ++ [.sl false 74 2 (List.map Part.c74 (b))]) [(false, 1)] [.v (.bool (true))] [] := by
 refine Trip.of Tryz.func3 (by decide) (c := _) rfl rfl (Nat.le_of_ble_eq_true rfl) rfl (AftOk.nil _) <| .sla (t := 0) 0 rfl rfl fun hs1l => .sla (t := 0) 1 rfl rfl fun hs2l => .sla (t := 0) 2 rfl rfl fun hs3l => .sl (t := 1) rfl fun hs4l => .sl (t := 2) rfl fun hs5l => .seq <| .rs fun k6 => .g (fun _ τ => ⟨_, .box (.no rfl) rfl rfl rfl rfl rfl τ⟩) ?_
 refine .as rfl <| .z <| .seq <| .rs fun k7 => .as rfl <| .z <| .seq <| .rs fun k8 => .lda t25 rfl (.ptr _ _ _ _ _ rfl) rfl ?_
 refine .mv rfl ?_
 refine .c0 (c_szDecl d 1048576 (by first | assumption | omega | exact ⟨‹_›, ‹_›⟩ | exact q1.1.1 | exact q1.1.2 | exact q2.1.1 | exact q2.1.2 | (simp only [Decl.marks, Env.marks, Env.mark, mkAll_len]; omega) | exact s1 | exact w1 | exact s9 | exact w9 | exact PartS.small_mark s9 | exact PartS.marked _ _ | (rw [PartS.wt_mark0]; exact w9) | exact s2 | exact w2) (by first | assumption | omega | exact ⟨‹_›, ‹_›⟩ | exact q1.1.1 | exact q1.1.2 | exact q2.1.1 | exact q2.1.2 | (simp only [Decl.marks, Env.marks, Env.mark, mkAll_len]; omega) | exact s1 | exact w1 | exact s9 | exact w9 | exact PartS.small_mark s9 | exact PartS.marked _ _ | (rw [PartS.wt_mark0]; exact w9) | exact s2 | exact w2) (by first | assumption | omega | exact ⟨‹_›, ‹_›⟩ | exact q1.1.1 | exact q1.1.2 | exact q2.1.1 | exact q2.1.2 | (simp only [Decl.marks, Env.marks, Env.mark, mkAll_len]; omega) | exact s1 | exact w1 | exact s9 | exact w9 | exact PartS.small_mark s9 | exact PartS.marked _ _ | (rw [PartS.wt_mark0]; exact w9) | exact s2 | exact w2) (by first | assumption | omega | exact ⟨‹_›, ‹_›⟩ | exact q1.1.1 | exact q1.1.2 | exact q2.1.1 | exact q2.1.2 | (simp only [Decl.marks, Env.marks, Env.mark, mkAll_len]; omega) | exact s1 | exact w1 | exact s9 | exact w9 | exact PartS.small_mark s9 | exact PartS.marked _ _ | (rw [PartS.wt_mark0]; exact w9) | exact s2 | exact w2)) rfl (.dd (.dd (.dd (.dd .nil)))) (.own [19, 0] .nil) rfl ?_
 refine .as rfl <| .z <| .seq <| .seq <| .rs fun k9 => .mv rfl <| .bi rfl <| .z ?_
 refine .cond (t := decide ((szDecl d 1048576) < 0)) rfl (fun c0 => ?_) (fun c0 => ?_)
 ·have c0 := of_decide_eq_true c0
  refine .seq <| .rs fun k10 => .as rfl <| .z <| .ret ?_
  exact fin0 (.inr rfl) (.one rfl .nil) (.dd .nil) rfl
 ·have c0 := of_decide_eq_false c0
  have q0 := szDecl_len hv hf ha (by omega) c0
  refine .skip <| .seq <| .rs fun k11 => .mv rfl <| .mv rfl <| .c0 (c_szPartS a (szDecl d 1048576) (by first | assumption | omega | exact ⟨‹_›, ‹_›⟩ | exact q1.1.1 | exact q1.1.2 | exact q2.1.1 | exact q2.1.2 | (simp only [Decl.marks, Env.marks, Env.mark, mkAll_len]; omega) | exact s1 | exact w1 | exact s9 | exact w9 | exact PartS.small_mark s9 | exact PartS.marked _ _ | (rw [PartS.wt_mark0]; exact w9) | exact s2 | exact w2)) rfl (.dd (.dd .nil)) (.own [24, 0] .nil) rfl <| .as rfl <| .z <| .seq ?_
  refine .seq <| .rs fun k12 => .mv rfl <| .bi rfl <| .z ?_
  refine .cond (t := decide ((szPartS a (szDecl d 1048576)) < 0)) rfl (fun c1 => ?_) (fun c1 => ?_)
  ·have c1 := of_decide_eq_true c1
   refine .seq <| .rs fun k13 => .as rfl <| .z <| .ret ?_
   exact fin0 (.inr rfl) (.one rfl .nil) (.dd .nil) rfl
  ·have c1 := of_decide_eq_false c1
   have q1 := szPartS_len (by omega) c1
   have q1a := q1.1
   refine .skip <| .seq <| .rs fun k14 => .mv rfl <| .mv rfl <| .c0 (c_szPartS b (szPartS a (szDecl d 1048576)) (by first | assumption | omega | exact ⟨‹_›, ‹_›⟩ | exact q1.1.1 | exact q1.1.2 | exact q2.1.1 | exact q2.1.2 | (simp only [Decl.marks, Env.marks, Env.mark, mkAll_len]; omega) | exact s1 | exact w1 | exact s9 | exact w9 | exact PartS.small_mark s9 | exact PartS.marked _ _ | (rw [PartS.wt_mark0]; exact w9) | exact s2 | exact w2)) rfl (.dd (.dd .nil)) (.own [29, 0] .nil) rfl <| .as rfl <| .z <| .seq ?_
   refine .seq <| .rs fun k15 => .mv rfl <| .bi rfl <| .z ?_
   refine .cond (t := decide ((szPartS b (szPartS a (szDecl d 1048576))) < 0)) rfl (fun c2 => ?_) (fun c2 => ?_)
   ·have c2 := of_decide_eq_true c2
    refine .seq <| .rs fun k16 => .as rfl <| .z <| .ret ?_
    exact fin0 (.inr rfl) (.one rfl .nil) (.dd .nil) rfl
   ·have c2 := of_decide_eq_false c2
    have q2 := szPartS_len (by omega) c2
    have q2a := q2.1
    have s1 := q1.1
    have s2 := q2.1
    have w1 := szPartS_wt (by omega) c1
    have w2 := szPartS_wt (by omega) c2
    have s9 := (pjoin_small (d := d) (a := a) (b := b)).1
    have w9 := (pjoin_small (d := d) (a := a) (b := b)).2
    have kd : 0 ≤ Decl.marks 1 d ∧ Decl.marks 1 d ≤ 1073741824 := (by simp only [Decl.marks]; omega)
    have m1 := PartS.marks_bnd (k := Decl.marks 1 d) s1 w1
    have m2 := PartS.marks_bnd (k := PartS.marks (Decl.marks 1 d) a) s2 w2
    have m9 := PartS.marks_bnd (k := 1) s9 w9
    refine .skip <| .seq <| .rs fun k17 => .lda t25 rfl (.ptr _ _ _ _ _ rfl) rfl <| .c0 (c_toDecl d (by first | assumption | omega | exact ⟨‹_›, ‹_›⟩ | exact q1.1.1 | exact q1.1.2 | exact q2.1.1 | exact q2.1.2 | (simp only [Decl.marks, Env.marks, Env.mark, mkAll_len]; omega) | exact s1 | exact w1 | exact s9 | exact w9 | exact PartS.small_mark s9 | exact PartS.marked _ _ | (rw [PartS.wt_mark0]; exact w9) | exact s2 | exact w2)) rfl (.dd (.dd (.dd .nil))) (.own [33, 0] (.own [33, 1] (.own [33, 2] .nil))) rfl <| .mv rfl ?_
    refine .c0 (c_toPartS a (by first | assumption | omega | exact ⟨‹_›, ‹_›⟩ | exact q1.1.1 | exact q1.1.2 | exact q2.1.1 | exact q2.1.2 | (simp only [Decl.marks, Env.marks, Env.mark, mkAll_len]; omega) | exact s1 | exact w1 | exact s9 | exact w9 | exact PartS.small_mark s9 | exact PartS.marked _ _ | (rw [PartS.wt_mark0]; exact w9) | exact s2 | exact w2) (by first | assumption | omega | exact ⟨‹_›, ‹_›⟩ | exact q1.1.1 | exact q1.1.2 | exact q2.1.1 | exact q2.1.2 | (simp only [Decl.marks, Env.marks, Env.mark, mkAll_len]; omega) | exact s1 | exact w1 | exact s9 | exact w9 | exact PartS.small_mark s9 | exact PartS.marked _ _ | (rw [PartS.wt_mark0]; exact w9) | exact s2 | exact w2)) rfl (.dd .nil) (.own [35, 0] .nil) rfl <| .mv rfl ?_
    refine .c0 (c_toPartS b (by first | assumption | omega | exact ⟨‹_›, ‹_›⟩ | exact q1.1.1 | exact q1.1.2 | exact q2.1.1 | exact q2.1.2 | (simp only [Decl.marks, Env.marks, Env.mark, mkAll_len]; omega) | exact s1 | exact w1 | exact s9 | exact w9 | exact PartS.small_mark s9 | exact PartS.marked _ _ | (rw [PartS.wt_mark0]; exact w9) | exact s2 | exact w2) (by first | assumption | omega | exact ⟨‹_›, ‹_›⟩ | exact q1.1.1 | exact q1.1.2 | exact q2.1.1 | exact q2.1.2 | (simp only [Decl.marks, Env.marks, Env.mark, mkAll_len]; omega) | exact s1 | exact w1 | exact s9 | exact w9 | exact PartS.small_mark s9 | exact PartS.marked _ _ | (rw [PartS.wt_mark0]; exact w9) | exact s2 | exact w2)) rfl (.dd .nil) (.own [37, 0] .nil) rfl ?_
    refine .g (fun _ τ => ⟨_, .call (.no rfl) rfl [[33, 0], [33, 1], [33, 2], [35, 0], [37, 0]] [([33, 0], (k17 + 1, k17 + 1, .row 9 1 (List.map strc (d.vars)))), ([33, 1], (k17 + 1, k17 + 1, .row 9 1 (List.map strc (d.flags)))), ([33, 2], (k17 + 1, k17 + 1, .row 112 2 (List.map Arr.c (d.arrays)))), ([35, 0], (k17 + 1 + 1 + 1, k17 + 1 + 1 + 1, .row 62 2 (List.map Part.co62 (a)))), ([37, 0], (k17 + 1 + 1 + 1 + 1 + 1, k17 + 1 + 1 + 1 + 1 + 1, .row 62 2 (List.map Part.co62 (b))))] (c_sPartsJoin d a b (by first | assumption | omega | exact ⟨‹_›, ‹_›⟩ | exact q1.1.1 | exact q1.1.2 | exact q2.1.1 | exact q2.1.2 | (simp only [Decl.marks, Env.marks, Env.mark, mkAll_len]; omega) | exact s1 | exact w1 | exact s9 | exact w9 | exact PartS.small_mark s9 | exact PartS.marked _ _ | (rw [PartS.wt_mark0]; exact w9) | exact s2 | exact w2) (by first | assumption | omega | exact ⟨‹_›, ‹_›⟩ | exact q1.1.1 | exact q1.1.2 | exact q2.1.1 | exact q2.1.2 | (simp only [Decl.marks, Env.marks, Env.mark, mkAll_len]; omega) | exact s1 | exact w1 | exact s9 | exact w9 | exact PartS.small_mark s9 | exact PartS.marked _ _ | (rw [PartS.wt_mark0]; exact w9) | exact s2 | exact w2) (by first | assumption | omega | exact ⟨‹_›, ‹_›⟩ | exact q1.1.1 | exact q1.1.2 | exact q2.1.1 | exact q2.1.2 | (simp only [Decl.marks, Env.marks, Env.mark, mkAll_len]; omega) | exact s1 | exact w1 | exact s9 | exact w9 | exact PartS.small_mark s9 | exact PartS.marked _ _ | (rw [PartS.wt_mark0]; exact w9) | exact s2 | exact w2) (by first | assumption | omega | exact ⟨‹_›, ‹_›⟩ | exact q1.1.1 | exact q1.1.2 | exact q2.1.1 | exact q2.1.2 | (simp only [Decl.marks, Env.marks, Env.mark, mkAll_len]; omega) | exact s1 | exact w1 | exact s9 | exact w9 | exact PartS.small_mark s9 | exact PartS.marked _ _ | (rw [PartS.wt_mark0]; exact w9) | exact s2 | exact w2)) rfl rfl rfl rfl rfl (.cons (Reads.ref (Frz.of_erase (erase_slo _ _ _ _ _ _ strc_e)) (.head _) (.head _)).gives (.cons (Reads.ref (Frz.of_erase (erase_slo _ _ _ _ _ _ strc_e)) (.tail _ (.head _)) (.tail _ (.head _))).gives (.cons (Reads.ref (Frz.of_erase (erase_slo _ _ _ _ _ _ Arr.c_e)) (.tail _ (.tail _ (.head _))) (.tail _ (.tail _ (.head _)))).gives (.cons (Reads.ref (Frz.of_erase (erase_slo _ _ _ _ _ _ Part.co62_e)) (.tail _ (.tail _ (.tail _ (.head _)))) (.tail _ (.tail _ (.tail _ (.head _))))).gives (.cons (Reads.ref (Frz.of_erase (erase_slo _ _ _ _ _ _ Part.co62_e)) (.tail _ (.tail _ (.tail _ (.tail _ (.head _))))) (.tail _ (.tail _ (.tail _ (.tail _ (.head _)))))).gives .nil))))) rfl rfl (fun _ => (ownCons (Owned.map _ _ _ _ Part.co62_o) ownNil)) (.frz [38, 0] (Frz.of_erase (erase_slo _ _ _ _ _ _ Part.co62_e)) .nil) (.nil) rfl rfl rfl (AllH.get (.r rfl)) rfl rfl rfl τ⟩) ?_
    refine .as rfl <| .z <| .seq <| .rs fun k18 => .lda t25 rfl (.ptr _ _ _ _ _ rfl) rfl <| .c0 (c_toDecl d (by first | assumption | omega | exact ⟨‹_›, ‹_›⟩ | exact q1.1.1 | exact q1.1.2 | exact q2.1.1 | exact q2.1.2 | (simp only [Decl.marks, Env.marks, Env.mark, mkAll_len]; omega) | exact s1 | exact w1 | exact s9 | exact w9 | exact PartS.small_mark s9 | exact PartS.marked _ _ | (rw [PartS.wt_mark0]; exact w9) | exact s2 | exact w2)) rfl (.dd (.dd (.dd .nil))) (.own [40, 0] (.own [40, 1] (.own [40, 2] .nil))) rfl <| .g (fun _ τ => ⟨_, .alloc (.no rfl) rfl z33 rfl rfl rfl τ⟩) <| .g (fun _ τ => ⟨_, .store (.no rfl) rfl t33 rfl rfl rfl rfl rfl rfl rfl rfl rfl τ⟩) <| .z ?_
    refine .seq <| .rs fun k19 => .mv rfl <| .c0 (c_toPartS a (by first | assumption | omega | exact ⟨‹_›, ‹_›⟩ | exact q1.1.1 | exact q1.1.2 | exact q2.1.1 | exact q2.1.2 | (simp only [Decl.marks, Env.marks, Env.mark, mkAll_len]; omega) | exact s1 | exact w1 | exact s9 | exact w9 | exact PartS.small_mark s9 | exact PartS.marked _ _ | (rw [PartS.wt_mark0]; exact w9) | exact s2 | exact w2) (by first | assumption | omega | exact ⟨‹_›, ‹_›⟩ | exact q1.1.1 | exact q1.1.2 | exact q2.1.1 | exact q2.1.2 | (simp only [Decl.marks, Env.marks, Env.mark, mkAll_len]; omega) | exact s1 | exact w1 | exact s9 | exact w9 | exact PartS.small_mark s9 | exact PartS.marked _ _ | (rw [PartS.wt_mark0]; exact w9) | exact s2 | exact w2)) rfl (.dd .nil) (.own [42, 0] .nil) rfl <| .as rfl <| .z <| .seq <| .rs fun k20 => .mv rfl ?_
    refine .c0 (c_toPartS b (by first | assumption | omega | exact ⟨‹_›, ‹_›⟩ | exact q1.1.1 | exact q1.1.2 | exact q2.1.1 | exact q2.1.2 | (simp only [Decl.marks, Env.marks, Env.mark, mkAll_len]; omega) | exact s1 | exact w1 | exact s9 | exact w9 | exact PartS.small_mark s9 | exact PartS.marked _ _ | (rw [PartS.wt_mark0]; exact w9) | exact s2 | exact w2) (by first | assumption | omega | exact ⟨‹_›, ‹_›⟩ | exact q1.1.1 | exact q1.1.2 | exact q2.1.1 | exact q2.1.2 | (simp only [Decl.marks, Env.marks, Env.mark, mkAll_len]; omega) | exact s1 | exact w1 | exact s9 | exact w9 | exact PartS.small_mark s9 | exact PartS.marked _ _ | (rw [PartS.wt_mark0]; exact w9) | exact s2 | exact w2)) rfl (.dd .nil) (.own [44, 0] .nil) rfl <| .as rfl <| .z <| .seq ?_
    refine .reg (X := Nat) (fun ζ => .of [(1, .one (.d (.sl false 74 2 (List.map Part.c74 (a))))), (2, .one (.d (.sl false 74 2 (List.map Part.c74 (b))))), (3, .one (.ptr [3] (k6) 0)), (8, .one (.d (.sl false 62 2 (List.map Part.c62 (Parts.joinIn d a b))))), (9, .one (.ptr [9] (k18 + 1 + 1) 0)), (10, .one (.ref [42, 0] (k19 + 1))), (11, .one (.ref [44, 0] (k20 + 1))), (12, .one (.ref [48, 0] (ζ)))] [([3], (k6, k6, .box [.d (.sl false 9 1 (List.map strc (d.vars))), .d (.sl false 9 1 (List.map strc (d.flags))), .d (.sl false 126 2 (List.map Arr.c (d.arrays)))])), ([9], (k18 + 1 + 1, k18 + 1 + 1 + 1, .box [.ref [40, 0] (k18 + 1), .ref [40, 1] (k18 + 1), .ref [40, 2] (k18 + 1)])), ([40, 0], (k18 + 1, k18 + 1, .row 9 1 (List.map strc (d.vars)))), ([40, 1], (k18 + 1, k18 + 1, .row 9 1 (List.map strc (d.flags)))), ([40, 2], (k18 + 1, k18 + 1, .row 112 2 (List.map Arr.c (d.arrays)))), ([42, 0], (k19 + 1, k19 + 1, .row 62 2 (List.map Part.co62 (a)))), ([44, 0], (k20 + 1, k20 + 1, .row 62 2 (List.map Part.co62 (b)))), ([48, 0], (ζ, ζ, .row 62 2 (List.map Part.co62 (Parts.joinIn d a b))))]) [⟨[9], some 45, [[9]], []⟩, ⟨[10], some 46, [], []⟩, ⟨[11], some 47, [], []⟩, ⟨[45, 46, 47], some 48, [[40, 0], [40, 1], [40, 2], [42, 0], [44, 0]], [[48, 0]]⟩, ⟨[48], some 12, [], []⟩] (fun k21 => ?_) ?_
    ·skip
     refine .load (.no rfl) rfl t33 rfl rfl (.ptr _ _ _ _ _ rfl) rfl rfl rfl rfl <| .move (.no rfl) rfl rfl rfl rfl <| .move (.no rfl) rfl rfl rfl rfl ?_
     refine .call (.no rfl) rfl [[40, 0], [40, 1], [40, 2], [42, 0], [44, 0]] [([40, 0], (k18 + 1, k18 + 1, .row 9 1 (List.map strc (d.vars)))), ([40, 1], (k18 + 1, k18 + 1, .row 9 1 (List.map strc (d.flags)))), ([40, 2], (k18 + 1, k18 + 1, .row 112 2 (List.map Arr.c (d.arrays)))), ([42, 0], (k19 + 1, k19 + 1, .row 62 2 (List.map Part.co62 (a)))), ([44, 0], (k20 + 1, k20 + 1, .row 62 2 (List.map Part.co62 (b))))] (c_PartsJoin d a b (by first | assumption | omega | exact ⟨‹_›, ‹_›⟩ | exact q1.1.1 | exact q1.1.2 | exact q2.1.1 | exact q2.1.2 | (simp only [Decl.marks, Env.marks, Env.mark, mkAll_len]; omega) | exact s1 | exact w1 | exact s9 | exact w9 | exact PartS.small_mark s9 | exact PartS.marked _ _ | (rw [PartS.wt_mark0]; exact w9) | exact s2 | exact w2) (by first | assumption | omega | exact ⟨‹_›, ‹_›⟩ | exact q1.1.1 | exact q1.1.2 | exact q2.1.1 | exact q2.1.2 | (simp only [Decl.marks, Env.marks, Env.mark, mkAll_len]; omega) | exact s1 | exact w1 | exact s9 | exact w9 | exact PartS.small_mark s9 | exact PartS.marked _ _ | (rw [PartS.wt_mark0]; exact w9) | exact s2 | exact w2)) rfl rfl rfl rfl rfl (.cons (Reads.ref (Frz.of_erase (erase_slo _ _ _ _ _ _ strc_e)) (.head _) (.head _)).gives (.cons (Reads.ref (Frz.of_erase (erase_slo _ _ _ _ _ _ strc_e)) (.tail _ (.head _)) (.tail _ (.head _))).gives (.cons (Reads.ref (Frz.of_erase (erase_slo _ _ _ _ _ _ Arr.c_e)) (.tail _ (.tail _ (.head _))) (.tail _ (.tail _ (.head _)))).gives (.cons (Reads.ref (Frz.of_erase (erase_slo _ _ _ _ _ _ Part.co62_e)) (.tail _ (.tail _ (.tail _ (.head _)))) (.tail _ (.tail _ (.tail _ (.head _))))).gives (.cons (Reads.ref (Frz.of_erase (erase_slo _ _ _ _ _ _ Part.co62_e)) (.tail _ (.tail _ (.tail _ (.tail _ (.head _))))) (.tail _ (.tail _ (.tail _ (.tail _ (.head _)))))).gives .nil))))) rfl rfl (fun _ => (ownCons (Owned.map _ _ _ _ Part.co62_o) ownNil)) (.own [48, 0] .nil) (.nil) rfl rfl rfl (AllH.get (.r rfl)) rfl rfl rfl ?_
     refine .assign (.no rfl) rfl rfl rfl rfl ?_
     exact .fin (k21 + 1 + 1 + 1) (.of (.r rfl) (.r rfl))
    intro g22
    refine .seq <| .seq <| .rs fun k23 => .mv rfl <| .mv rfl <| .g (fun _ τ => ⟨_, .call (.no rfl) rfl [[48, 0]] [([48, 0], (g22, g22, .row 62 2 (List.map Part.co62 (Parts.joinIn d a b))))] (c_eqPartS (Parts.joinIn d a b) (Parts.joinIn d a b)) rfl rfl rfl rfl rfl (.cons (Reads.ref (Frz.of_erase (erase_slo _ _ _ _ _ _ Part.co62_e)) (.head _) (.head _)).gives (.dd .nil)) rfl rfl (fun _ => (ownCons (Owned.v _) ownNil)) (.own [51, 0] .nil) (.nil) rfl rfl rfl (AllH.get (.r rfl)) rfl rfl rfl τ⟩) <| .un rfl <| .z ?_
    refine .cond (t := !(all2 Part.same (Parts.joinIn d a b) (Parts.joinIn d a b))) rfl (fun c3 => ?_) (fun c3 => ?_)
    ·have c3 := (nT id) c3
     refine .seq <| .rs fun k24 => .as rfl <| .z <| .ret ?_
     exact fin0 (.inr rfl) (.one (svB (show (false) = (true) by first | exact absurd c3 (by rw [Env.same_self]; decide) | exact absurd c3 (by rw [Decl.same_self]; decide) | exact absurd c3 (by rw [all2_self Env.same_self]; decide) | exact absurd c3 (by rw [all2_self Part.same_self]; decide) | exact absurd c3 (by rw [all2_self Entry.same_self]; decide) | exact absurd (EnvS.marks_mark _ _) c3 | (rcases c3 with h9 | h9 <;> first | exact (h9 trivial).elim | exact absurd rfl h9 | exact absurd h9 (by rw [all2_self Env.same_self]; decide) | (simp only [Decl.marks, Env.marks] at h9; omega) | omega) | exact absurd (PartS.marks_mark _ _) c3 | (rw [PartS.marks_mark] at c3; omega) | (rcases c3 with h9 | h9; omega; exact absurd h9 (by rw [all2_self Part.same_self]; decide)) | omega | (rw [EnvS.marks_mark] at c3; omega))) .nil) (.dd .nil) rfl
    ·have c3 := (nF id) c3
     refine .skip <| .seq <| .seq ?_
     refine .regD (X := Unit) (by kernel_rfl) (fun ζ => .of [(1, .one (.d (.sl false 74 2 (List.map Part.c74 (a))))), (2, .one (.d (.sl false 74 2 (List.map Part.c74 (b))))), (3, .one (.ptr [3] (k6) 0)), (8, .one (.d (.sl false 62 2 (List.map Part.c62 (Parts.joinIn d a b))))), (9, .one (.ptr [9] (k18 + 1 + 1) 0)), (10, .one (.ref [42, 0] (k19 + 1))), (11, .one (.ref [44, 0] (k20 + 1))), (12, .one (.ref [48, 0] (g22))), (57, .one (.d (.v (.bool (!(Decl.same d d))))))] [([3], (k6, k6, .box [.d (.sl false 9 1 (List.map strc (d.vars))), .d (.sl false 9 1 (List.map strc (d.flags))), .d (.sl false 126 2 (List.map Arr.c (d.arrays)))])), ([9], (k18 + 1 + 1, k18 + 1 + 1 + 1, .box [.ref [40, 0] (k18 + 1), .ref [40, 1] (k18 + 1), .ref [40, 2] (k18 + 1)])), ([40, 0], (k18 + 1, k18 + 1, .row 9 1 (List.map strc (d.vars)))), ([40, 1], (k18 + 1, k18 + 1, .row 9 1 (List.map strc (d.flags)))), ([40, 2], (k18 + 1, k18 + 1, .row 112 2 (List.map Arr.c (d.arrays)))), ([42, 0], (k19 + 1, k19 + 1, .row 62 2 (List.map Part.co62 (a)))), ([44, 0], (k20 + 1, k20 + 1, .row 62 2 (List.map Part.co62 (b)))), ([48, 0], (g22, g22, .row 62 2 (List.map Part.co62 (Parts.joinIn d a b))))]) [⟨[9], some 53, [[9]], []⟩, ⟨[3], some 54, [[3]], []⟩, ⟨[54], some 55, [], [[55, 0], [55, 1], [55, 2]]⟩, ⟨[53, 55], some 56, [[40, 0], [40, 1], [40, 2], [55, 0], [55, 1], [55, 2]], []⟩, ⟨[56], some 57, [], []⟩] (by kernel_rfl) (fun k26 => ?_) ?_
     ·skip
      refine .load (.no rfl) rfl t33 rfl rfl (.ptr _ _ _ _ _ rfl) rfl rfl rfl rfl <| .load (.no rfl) rfl t25 rfl rfl (.ptr _ _ _ _ _ rfl) rfl rfl rfl rfl <| .call (.no rfl) rfl [] [] (c_toDecl d (by first | assumption | omega | exact ⟨‹_›, ‹_›⟩ | exact q1.1.1 | exact q1.1.2 | exact q2.1.1 | exact q2.1.2 | (simp only [Decl.marks, Env.marks, Env.mark, mkAll_len]; omega) | exact s1 | exact w1 | exact s9 | exact w9 | exact PartS.small_mark s9 | exact PartS.marked _ _ | (rw [PartS.wt_mark0]; exact w9) | exact s2 | exact w2)) rfl rfl rfl rfl rfl (.dd (.dd (.dd .nil))) rfl rfl (fun h => absurd rfl h) (.own [55, 0] (.own [55, 1] (.own [55, 2] .nil))) (.nil) rfl rfl rfl (by simp) rfl rfl rfl ?_
      refine .call (.no rfl) rfl [[40, 0], [40, 1], [40, 2], [55, 0], [55, 1], [55, 2]] [([40, 0], (k18 + 1, k18 + 1, .row 9 1 (List.map strc (d.vars)))), ([40, 1], (k18 + 1, k18 + 1, .row 9 1 (List.map strc (d.flags)))), ([40, 2], (k18 + 1, k18 + 1, .row 112 2 (List.map Arr.c (d.arrays)))), ([55, 0], (k26 + 1 + 1, k26 + 1 + 1, .row 9 1 (List.map strc (d.vars)))), ([55, 1], (k26 + 1 + 1, k26 + 1 + 1, .row 9 1 (List.map strc (d.flags)))), ([55, 2], (k26 + 1 + 1, k26 + 1 + 1, .row 112 2 (List.map Arr.c (d.arrays))))] (c_eqDecl d d) rfl rfl rfl rfl rfl (.cons (Reads.ref (Frz.of_erase (erase_slo _ _ _ _ _ _ strc_e)) (.head _) (.head _)).gives (.cons (Reads.ref (Frz.of_erase (erase_slo _ _ _ _ _ _ strc_e)) (.tail _ (.head _)) (.tail _ (.head _))).gives (.cons (Reads.ref (Frz.of_erase (erase_slo _ _ _ _ _ _ Arr.c_e)) (.tail _ (.tail _ (.head _))) (.tail _ (.tail _ (.head _)))).gives (.cons (Reads.ref (Frz.of_erase (erase_slo _ _ _ _ _ _ strc_e)) (.tail _ (.tail _ (.tail _ (.head _)))) (.tail _ (.tail _ (.tail _ (.head _))))).gives (.cons (Reads.ref (Frz.of_erase (erase_slo _ _ _ _ _ _ strc_e)) (.tail _ (.tail _ (.tail _ (.tail _ (.head _))))) (.tail _ (.tail _ (.tail _ (.tail _ (.head _)))))).gives (.cons (Reads.ref (Frz.of_erase (erase_slo _ _ _ _ _ _ Arr.c_e)) (.tail _ (.tail _ (.tail _ (.tail _ (.tail _ (.head _)))))) (.tail _ (.tail _ (.tail _ (.tail _ (.tail _ (.head _))))))).gives .nil)))))) rfl rfl (fun _ => (ownCons (Owned.v _) ownNil)) (.own [56, 0] .nil) (.nil) rfl rfl rfl (AllH.get (.r rfl)) rfl rfl rfl ?_
      refine .un (.no rfl) rfl rfl rfl rfl rfl ?_
      exact .fin () (.of (.r rfl) (.r rfl))
     intro _
     refine .cond (t := !(Decl.same d d)) rfl (fun c4 => ?_) (fun c4 => ?_)
     ·have c4 := (nT id) c4
      refine .seq <| .rs fun k27 => .as rfl <| .z <| .ret ?_
      exact fin0 (.inr rfl) (.one (svB (show (false) = (true) by first | exact absurd c4 (by rw [Env.same_self]; decide) | exact absurd c4 (by rw [Decl.same_self]; decide) | exact absurd c4 (by rw [all2_self Env.same_self]; decide) | exact absurd c4 (by rw [all2_self Part.same_self]; decide) | exact absurd c4 (by rw [all2_self Entry.same_self]; decide) | exact absurd (EnvS.marks_mark _ _) c4 | (rcases c4 with h9 | h9 <;> first | exact (h9 trivial).elim | exact absurd rfl h9 | exact absurd h9 (by rw [all2_self Env.same_self]; decide) | (simp only [Decl.marks, Env.marks] at h9; omega) | omega) | exact absurd (PartS.marks_mark _ _) c4 | (rw [PartS.marks_mark] at c4; omega) | (rcases c4 with h9 | h9; omega; exact absurd h9 (by rw [all2_self Part.same_self]; decide)) | omega | (rw [EnvS.marks_mark] at c4; omega))) .nil) (.dd .nil) rfl
     ·have c4 := (nF id) c4
      refine .skip <| .seq <| .seq <| .rs fun k29 => .mv rfl <| .mv rfl <| .c0 (c_toPartS a (by first | assumption | omega | exact ⟨‹_›, ‹_›⟩ | exact q1.1.1 | exact q1.1.2 | exact q2.1.1 | exact q2.1.2 | (simp only [Decl.marks, Env.marks, Env.mark, mkAll_len]; omega) | exact s1 | exact w1 | exact s9 | exact w9 | exact PartS.small_mark s9 | exact PartS.marked _ _ | (rw [PartS.wt_mark0]; exact w9) | exact s2 | exact w2) (by first | assumption | omega | exact ⟨‹_›, ‹_›⟩ | exact q1.1.1 | exact q1.1.2 | exact q2.1.1 | exact q2.1.2 | (simp only [Decl.marks, Env.marks, Env.mark, mkAll_len]; omega) | exact s1 | exact w1 | exact s9 | exact w9 | exact PartS.small_mark s9 | exact PartS.marked _ _ | (rw [PartS.wt_mark0]; exact w9) | exact s2 | exact w2)) rfl (.dd .nil) (.own [60, 0] .nil) rfl ?_
      refine .g (fun _ τ => ⟨_, .call (.no rfl) rfl [[42, 0], [60, 0]] [([42, 0], (k19 + 1, k19 + 1, .row 62 2 (List.map Part.co62 (a)))), ([60, 0], (k29 + 1 + 1, k29 + 1 + 1, .row 62 2 (List.map Part.co62 (a))))] (c_eqPartS a a) rfl rfl rfl rfl rfl (.cons (Reads.ref (Frz.of_erase (erase_slo _ _ _ _ _ _ Part.co62_e)) (.head _) (.head _)).gives (.cons (Reads.ref (Frz.of_erase (erase_slo _ _ _ _ _ _ Part.co62_e)) (.tail _ (.head _)) (.tail _ (.head _))).gives .nil)) rfl rfl (fun _ => (ownCons (Owned.v _) ownNil)) (.own [61, 0] .nil) (.nil) rfl rfl rfl (AllH.get (.r rfl)) rfl rfl rfl τ⟩) <| .un rfl <| .z ?_
      refine .cond (t := !(all2 Part.same a a)) rfl (fun c5 => ?_) (fun c5 => ?_)
      ·have c5 := (nT id) c5
       refine .seq <| .rs fun k30 => .as rfl <| .z <| .ret ?_
       exact fin0 (.inr rfl) (.one (svB (show (false) = (true) by first | exact absurd c5 (by rw [Env.same_self]; decide) | exact absurd c5 (by rw [Decl.same_self]; decide) | exact absurd c5 (by rw [all2_self Env.same_self]; decide) | exact absurd c5 (by rw [all2_self Part.same_self]; decide) | exact absurd c5 (by rw [all2_self Entry.same_self]; decide) | exact absurd (EnvS.marks_mark _ _) c5 | (rcases c5 with h9 | h9 <;> first | exact (h9 trivial).elim | exact absurd rfl h9 | exact absurd h9 (by rw [all2_self Env.same_self]; decide) | (simp only [Decl.marks, Env.marks] at h9; omega) | omega) | exact absurd (PartS.marks_mark _ _) c5 | (rw [PartS.marks_mark] at c5; omega) | (rcases c5 with h9 | h9; omega; exact absurd h9 (by rw [all2_self Part.same_self]; decide)) | omega | (rw [EnvS.marks_mark] at c5; omega))) .nil) (.dd .nil) rfl
      ·have c5 := (nF id) c5
       refine .skip <| .seq <| .seq <| .rs fun k32 => .mv rfl <| .mv rfl <| .c0 (c_toPartS b (by first | assumption | omega | exact ⟨‹_›, ‹_›⟩ | exact q1.1.1 | exact q1.1.2 | exact q2.1.1 | exact q2.1.2 | (simp only [Decl.marks, Env.marks, Env.mark, mkAll_len]; omega) | exact s1 | exact w1 | exact s9 | exact w9 | exact PartS.small_mark s9 | exact PartS.marked _ _ | (rw [PartS.wt_mark0]; exact w9) | exact s2 | exact w2) (by first | assumption | omega | exact ⟨‹_›, ‹_›⟩ | exact q1.1.1 | exact q1.1.2 | exact q2.1.1 | exact q2.1.2 | (simp only [Decl.marks, Env.marks, Env.mark, mkAll_len]; omega) | exact s1 | exact w1 | exact s9 | exact w9 | exact PartS.small_mark s9 | exact PartS.marked _ _ | (rw [PartS.wt_mark0]; exact w9) | exact s2 | exact w2)) rfl (.dd .nil) (.own [65, 0] .nil) rfl ?_
       refine .g (fun _ τ => ⟨_, .call (.no rfl) rfl [[44, 0], [65, 0]] [([44, 0], (k20 + 1, k20 + 1, .row 62 2 (List.map Part.co62 (b)))), ([65, 0], (k32 + 1 + 1, k32 + 1 + 1, .row 62 2 (List.map Part.co62 (b))))] (c_eqPartS b b) rfl rfl rfl rfl rfl (.cons (Reads.ref (Frz.of_erase (erase_slo _ _ _ _ _ _ Part.co62_e)) (.head _) (.head _)).gives (.cons (Reads.ref (Frz.of_erase (erase_slo _ _ _ _ _ _ Part.co62_e)) (.tail _ (.head _)) (.tail _ (.head _))).gives .nil)) rfl rfl (fun _ => (ownCons (Owned.v _) ownNil)) (.own [66, 0] .nil) (.nil) rfl rfl rfl (AllH.get (.r rfl)) rfl rfl rfl τ⟩) <| .un rfl <| .z ?_
       refine .cond (t := !(all2 Part.same b b)) rfl (fun c6 => ?_) (fun c6 => ?_)
       ·have c6 := (nT id) c6
        refine .seq <| .rs fun k33 => .as rfl <| .z <| .ret ?_
        exact fin0 (.inr rfl) (.one (svB (show (false) = (true) by first | exact absurd c6 (by rw [Env.same_self]; decide) | exact absurd c6 (by rw [Decl.same_self]; decide) | exact absurd c6 (by rw [all2_self Env.same_self]; decide) | exact absurd c6 (by rw [all2_self Part.same_self]; decide) | exact absurd c6 (by rw [all2_self Entry.same_self]; decide) | exact absurd (EnvS.marks_mark _ _) c6 | (rcases c6 with h9 | h9 <;> first | exact (h9 trivial).elim | exact absurd rfl h9 | exact absurd h9 (by rw [all2_self Env.same_self]; decide) | (simp only [Decl.marks, Env.marks] at h9; omega) | omega) | exact absurd (PartS.marks_mark _ _) c6 | (rw [PartS.marks_mark] at c6; omega) | (rcases c6 with h9 | h9; omega; exact absurd h9 (by rw [all2_self Part.same_self]; decide)) | omega | (rw [EnvS.marks_mark] at c6; omega))) .nil) (.dd .nil) rfl
       ·have c6 := (nF id) c6
        refine .skip <| .seq <| .rs fun k35 => .as rfl <| .z <| .seq <| .rs fun k36 => .lda t33 rfl (.ptr _ _ _ _ _ rfl) rfl <| .mv rfl ?_
        refine .g (fun _ τ => ⟨_, .call (.no rfl) rfl [] [([40, 0], (k18 + 1, k18 + 1, .row 9 1 (List.map strc (d.vars)))), ([40, 1], (k18 + 1, k18 + 1, .row 9 1 (List.map strc (d.flags)))), ([40, 2], (k18 + 1, k18 + 1, .row 112 2 (List.map Arr.c (d.arrays))))] (c_markDecl d 1 (by first | assumption | omega | exact ⟨‹_›, ‹_›⟩ | exact q1.1.1 | exact q1.1.2 | exact q2.1.1 | exact q2.1.2 | (simp only [Decl.marks, Env.marks, Env.mark, mkAll_len]; omega) | exact s1 | exact w1 | exact s9 | exact w9 | exact PartS.small_mark s9 | exact PartS.marked _ _ | (rw [PartS.wt_mark0]; exact w9) | exact s2 | exact w2) (by first | assumption | omega | exact ⟨‹_›, ‹_›⟩ | exact q1.1.1 | exact q1.1.2 | exact q2.1.1 | exact q2.1.2 | (simp only [Decl.marks, Env.marks, Env.mark, mkAll_len]; omega) | exact s1 | exact w1 | exact s9 | exact w9 | exact PartS.small_mark s9 | exact PartS.marked _ _ | (rw [PartS.wt_mark0]; exact w9) | exact s2 | exact w2)) rfl rfl rfl rfl rfl (.cons (.ref (.head _)) (.cons (.ref (.tail _ (.head _))) (.cons (.ref (.tail _ (.tail _ (.head _)))) (.dd .nil)))) rfl rfl (fun h => absurd rfl h) (.own [70, 0] .nil) (.ref rfl (.head _) (by simp) (.ref rfl (.tail _ (.head _)) (by simp) (.ref rfl (.tail _ (.tail _ (.head _))) (by simp) .nil))) rfl rfl rfl (AllH.get (.r rfl)) rfl rfl rfl τ⟩) ?_
        refine .as rfl <| .z <| .seq <| .rs fun k37 => .mv rfl <| .mv rfl ?_
        refine .g (fun _ τ => ⟨_, .call (.no rfl) rfl [] [([42, 0], (k19 + 1, k19 + 1, .row 62 2 (List.map Part.co62 (a))))] (c_markPartS a (Decl.marks 1 d) (by first | assumption | omega | exact ⟨‹_›, ‹_›⟩ | exact q1.1.1 | exact q1.1.2 | exact q2.1.1 | exact q2.1.2 | (simp only [Decl.marks, Env.marks, Env.mark, mkAll_len]; omega) | exact s1 | exact w1 | exact s9 | exact w9 | exact PartS.small_mark s9 | exact PartS.marked _ _ | (rw [PartS.wt_mark0]; exact w9) | exact s2 | exact w2) (by first | assumption | omega | exact ⟨‹_›, ‹_›⟩ | exact q1.1.1 | exact q1.1.2 | exact q2.1.1 | exact q2.1.2 | (simp only [Decl.marks, Env.marks, Env.mark, mkAll_len]; omega) | exact s1 | exact w1 | exact s9 | exact w9 | exact PartS.small_mark s9 | exact PartS.marked _ _ | (rw [PartS.wt_mark0]; exact w9) | exact s2 | exact w2) (by first | assumption | omega | exact ⟨‹_›, ‹_›⟩ | exact q1.1.1 | exact q1.1.2 | exact q2.1.1 | exact q2.1.2 | (simp only [Decl.marks, Env.marks, Env.mark, mkAll_len]; omega) | exact s1 | exact w1 | exact s9 | exact w9 | exact PartS.small_mark s9 | exact PartS.marked _ _ | (rw [PartS.wt_mark0]; exact w9) | exact s2 | exact w2)) rfl rfl rfl rfl rfl (.cons (.ref (.head _)) (.dd .nil)) rfl rfl (fun h => absurd rfl h) (.own [73, 0] .nil) (.ref rfl (.head _) (by simp) .nil) rfl rfl rfl (AllH.get (.r rfl)) rfl rfl rfl τ⟩) ?_
        refine .as rfl <| .z <| .seq <| .rs fun k38 => .mv rfl <| .mv rfl ?_
        refine .g (fun _ τ => ⟨_, .call (.no rfl) rfl [] [([44, 0], (k20 + 1, k20 + 1, .row 62 2 (List.map Part.co62 (b))))] (c_markPartS b (PartS.marks (Decl.marks 1 d) a) (by first | assumption | omega | exact ⟨‹_›, ‹_›⟩ | exact q1.1.1 | exact q1.1.2 | exact q2.1.1 | exact q2.1.2 | (simp only [Decl.marks, Env.marks, Env.mark, mkAll_len]; omega) | exact s1 | exact w1 | exact s9 | exact w9 | exact PartS.small_mark s9 | exact PartS.marked _ _ | (rw [PartS.wt_mark0]; exact w9) | exact s2 | exact w2) (by first | assumption | omega | exact ⟨‹_›, ‹_›⟩ | exact q1.1.1 | exact q1.1.2 | exact q2.1.1 | exact q2.1.2 | (simp only [Decl.marks, Env.marks, Env.mark, mkAll_len]; omega) | exact s1 | exact w1 | exact s9 | exact w9 | exact PartS.small_mark s9 | exact PartS.marked _ _ | (rw [PartS.wt_mark0]; exact w9) | exact s2 | exact w2) (by first | assumption | omega | exact ⟨‹_›, ‹_›⟩ | exact q1.1.1 | exact q1.1.2 | exact q2.1.1 | exact q2.1.2 | (simp only [Decl.marks, Env.marks, Env.mark, mkAll_len]; omega) | exact s1 | exact w1 | exact s9 | exact w9 | exact PartS.small_mark s9 | exact PartS.marked _ _ | (rw [PartS.wt_mark0]; exact w9) | exact s2 | exact w2)) rfl rfl rfl rfl rfl (.cons (.ref (.head _)) (.dd .nil)) rfl rfl (fun h => absurd rfl h) (.own [76, 0] .nil) (.ref rfl (.head _) (by simp) .nil) rfl rfl rfl (AllH.get (.r rfl)) rfl rfl rfl τ⟩) ?_
        refine .as rfl <| .z <| .seq <| .seq ?_
        refine .reg (X := Unit) (fun ζ => .of [(1, .one (.d (.sl false 74 2 (List.map Part.c74 (a))))), (2, .one (.d (.sl false 74 2 (List.map Part.c74 (b))))), (3, .one (.ptr [3] (k6) 0)), (8, .one (.d (.sl false 62 2 (List.map Part.c62 (Parts.joinIn d a b))))), (12, .one (.ref [48, 0] (g22))), (84, .one (.d (.v (.bool ((decide ((PartS.marks (PartS.marks (Decl.marks 1 d) a) b) < 0) || !(all2 Part.same (Parts.joinIn d a b) (Parts.joinIn d a b))))))))] [([3], (k6, k6, .box [.d (.sl false 9 1 (List.map strc (d.vars))), .d (.sl false 9 1 (List.map strc (d.flags))), .d (.sl false 126 2 (List.map Arr.c (d.arrays)))])), ([48, 0], (g22, g22, .row 62 2 (List.map Part.co62 (Parts.joinIn d a b))))]) [⟨[13], some 77, [], []⟩, ⟨[77], some 78, [], []⟩, ⟨[78], some 79, [], []⟩, ⟨[79, 12], some 80, [], []⟩, ⟨[79, 8], some 81, [], []⟩, ⟨[79, 80, 81], some 82, [[48, 0]], []⟩, ⟨[79, 82], some 83, [], []⟩, ⟨[79, 83], some 84, [], []⟩] (fun k39 => ?_) ?_
        ·skip
         refine .move (.no rfl) rfl rfl rfl rfl <| .bin (.no rfl) rfl rfl rfl rfl rfl rfl <| .moveB (.no rfl) rfl rfl rfl rfl fun b40 g28_2 => ?_
         cases b40
         ·skip
          refine .move (.on rfl rfl rfl rfl rfl) rfl rfl rfl rfl <| .move (.on rfl rfl rfl rfl rfl) rfl rfl rfl rfl <| .call (.on rfl rfl rfl rfl rfl) rfl [[48, 0]] [([48, 0], (g22, g22, .row 62 2 (List.map Part.co62 (Parts.joinIn d a b))))] (c_eqPartS (Parts.joinIn d a b) (Parts.joinIn d a b)) rfl rfl rfl rfl rfl (.cons (Reads.ref (Frz.of_erase (erase_slo _ _ _ _ _ _ Part.co62_e)) (.head _) (.head _)).gives (.dd .nil)) rfl rfl (fun _ => (ownCons (Owned.v _) ownNil)) (.own [82, 0] .nil) (.nil) rfl rfl rfl (AllH.get (.r rfl)) rfl rfl rfl <| .un (.on rfl rfl rfl rfl rfl) rfl rfl rfl rfl rfl <| .pick (.no rfl) rfl rfl rfl rfl rfl ?_
          exact .fin () (.of (.cons rfl (.cons rfl (.cons rfl (.cons rfl (.cons rfl (.cons (svB (show (!(all2 Part.same (Parts.joinIn d a b) (Parts.joinIn d a b))) = ((decide ((PartS.marks (PartS.marks (Decl.marks 1 d) a) b) < 0) || !(all2 Part.same (Parts.joinIn d a b) (Parts.joinIn d a b)))) by first | (simp only [g28_2, Bool.true_or, Bool.false_or, Bool.true_and, Bool.false_and, Bool.not_true, Bool.not_false]; done) | (simp [g28_2]; done) | (exfalso; simp_all; done))) .nil)))))) (.r rfl))
         ·skip
          refine .off rfl rfl rfl rfl rfl rfl rfl <| .off rfl rfl rfl rfl rfl rfl rfl <| .off rfl rfl rfl rfl rfl rfl rfl <| .off rfl rfl rfl rfl rfl rfl rfl <| .pick (.no rfl) rfl rfl rfl rfl rfl ?_
          exact .fin () (.of (.cons rfl (.cons rfl (.cons rfl (.cons rfl (.cons rfl (.cons (svB (show (true) = ((decide ((PartS.marks (PartS.marks (Decl.marks 1 d) a) b) < 0) || !(all2 Part.same (Parts.joinIn d a b) (Parts.joinIn d a b)))) by first | (simp only [g28_2, Bool.true_or, Bool.false_or, Bool.true_and, Bool.false_and, Bool.not_true, Bool.not_false]; done) | (simp [g28_2]; done) | (exfalso; simp_all; done))) .nil)))))) (.r rfl))
        intro _
        refine .cond (t := (decide ((PartS.marks (PartS.marks (Decl.marks 1 d) a) b) < 0) || !(all2 Part.same (Parts.joinIn d a b) (Parts.joinIn d a b)))) rfl (fun c7 => ?_) (fun c7 => ?_)
        ·have c7 := (oT dT (nT id)) c7
         refine .seq <| .rs fun k41 => .as rfl <| .z <| .ret ?_
         exact fin0 (.inr rfl) (.one (svB (show (false) = (true) by first | exact absurd c7 (by rw [Env.same_self]; decide) | exact absurd c7 (by rw [Decl.same_self]; decide) | exact absurd c7 (by rw [all2_self Env.same_self]; decide) | exact absurd c7 (by rw [all2_self Part.same_self]; decide) | exact absurd c7 (by rw [all2_self Entry.same_self]; decide) | exact absurd (EnvS.marks_mark _ _) c7 | (rcases c7 with h9 | h9 <;> first | exact (h9 trivial).elim | exact absurd rfl h9 | exact absurd h9 (by rw [all2_self Env.same_self]; decide) | (simp only [Decl.marks, Env.marks] at h9; omega) | omega) | exact absurd (PartS.marks_mark _ _) c7 | (rw [PartS.marks_mark] at c7; omega) | (rcases c7 with h9 | h9; omega; exact absurd h9 (by rw [all2_self Part.same_self]; decide)) | omega | (rw [EnvS.marks_mark] at c7; omega))) .nil) (.dd .nil) rfl
        ·have c7 := (oF dF (nF id)) c7
         refine .skip <| .seq <| .rs fun k43 => .as rfl <| .z <| .seq <| .rs fun k44 => .mv rfl <| .mv rfl ?_
         refine .g (fun _ τ => ⟨_, .call (.no rfl) rfl [] [([48, 0], (g22, g22, .row 62 2 (List.map Part.co62 (Parts.joinIn d a b))))] (c_markPartS (Parts.joinIn d a b) 1 (by first | assumption | omega | exact ⟨‹_›, ‹_›⟩ | exact q1.1.1 | exact q1.1.2 | exact q2.1.1 | exact q2.1.2 | (simp only [Decl.marks, Env.marks, Env.mark, mkAll_len]; omega) | exact s1 | exact w1 | exact s9 | exact w9 | exact PartS.small_mark s9 | exact PartS.marked _ _ | (rw [PartS.wt_mark0]; exact w9) | exact s2 | exact w2) (by first | assumption | omega | exact ⟨‹_›, ‹_›⟩ | exact q1.1.1 | exact q1.1.2 | exact q2.1.1 | exact q2.1.2 | (simp only [Decl.marks, Env.marks, Env.mark, mkAll_len]; omega) | exact s1 | exact w1 | exact s9 | exact w9 | exact PartS.small_mark s9 | exact PartS.marked _ _ | (rw [PartS.wt_mark0]; exact w9) | exact s2 | exact w2) (by first | assumption | omega | exact ⟨‹_›, ‹_›⟩ | exact q1.1.1 | exact q1.1.2 | exact q2.1.1 | exact q2.1.2 | (simp only [Decl.marks, Env.marks, Env.mark, mkAll_len]; omega) | exact s1 | exact w1 | exact s9 | exact w9 | exact PartS.small_mark s9 | exact PartS.marked _ _ | (rw [PartS.wt_mark0]; exact w9) | exact s2 | exact w2)) rfl rfl rfl rfl rfl (.cons (.ref (.head _)) (.dd .nil)) rfl rfl (fun h => absurd rfl h) (.own [87, 0] .nil) (.ref rfl (.head _) (by simp) .nil) rfl rfl rfl (AllH.get (.r rfl)) rfl rfl rfl τ⟩) ?_
         refine .as rfl <| .z <| .seq <| .rs fun k45 => .as rfl <| .z <| .seq <| .rs fun k46 => .mv rfl ?_
         refine .mv rfl ?_
         refine .g (fun _ τ => ⟨_, .call (.no rfl) rfl [[48, 0]] [([48, 0], (g22, k44 + 1 + 1, .row 62 2 (List.map Part.co62 (PartS.mark 1 (Parts.joinIn d a b)))))] (c_heldPartS (PartS.mark 1 (Parts.joinIn d a b)) 1 (by first | assumption | omega | exact ⟨‹_›, ‹_›⟩ | exact q1.1.1 | exact q1.1.2 | exact q2.1.1 | exact q2.1.2 | (simp only [Decl.marks, Env.marks, Env.mark, mkAll_len]; omega) | exact s1 | exact w1 | exact s9 | exact w9 | exact PartS.small_mark s9 | exact PartS.marked _ _ | (rw [PartS.wt_mark0]; exact w9) | exact s2 | exact w2) (by first | assumption | omega | exact ⟨‹_›, ‹_›⟩ | exact q1.1.1 | exact q1.1.2 | exact q2.1.1 | exact q2.1.2 | (simp only [Decl.marks, Env.marks, Env.mark, mkAll_len]; omega) | exact s1 | exact w1 | exact s9 | exact w9 | exact PartS.small_mark s9 | exact PartS.marked _ _ | (rw [PartS.wt_mark0]; exact w9) | exact s2 | exact w2) (by first | assumption | omega | exact ⟨‹_›, ‹_›⟩ | exact q1.1.1 | exact q1.1.2 | exact q2.1.1 | exact q2.1.2 | (simp only [Decl.marks, Env.marks, Env.mark, mkAll_len]; omega) | exact s1 | exact w1 | exact s9 | exact w9 | exact PartS.small_mark s9 | exact PartS.marked _ _ | (rw [PartS.wt_mark0]; exact w9) | exact s2 | exact w2) (by first | assumption | omega | exact ⟨‹_›, ‹_›⟩ | exact q1.1.1 | exact q1.1.2 | exact q2.1.1 | exact q2.1.2 | (simp only [Decl.marks, Env.marks, Env.mark, mkAll_len]; omega) | exact s1 | exact w1 | exact s9 | exact w9 | exact PartS.small_mark s9 | exact PartS.marked _ _ | (rw [PartS.wt_mark0]; exact w9) | exact s2 | exact w2)) rfl rfl rfl rfl rfl (.cons (Reads.ref (Frz.of_erase (erase_slo _ _ _ _ _ _ Part.co62_e)) (.head _) (.head _)).gives (.dd .nil)) rfl rfl (fun _ => (ownCons (Owned.v _) ownNil)) (.own [90, 0] .nil) (.nil) rfl rfl rfl (AllH.get (.r rfl)) rfl rfl rfl τ⟩) ?_
         refine .as rfl <| .z <| .seq <| .seq <| .rs fun k47 => .mv rfl <| .bi rfl <| .z ?_
         refine .cond (t := decide ((PartS.marks 1 (PartS.mark 1 (Parts.joinIn d a b))) < 0)) rfl (fun c8 => ?_) (fun c8 => ?_)
         ·have c8 := of_decide_eq_true c8
          refine .seq <| .rs fun k48 => .as rfl <| .z <| .ret ?_
          exact fin0 (.inr rfl) (.one (svB (show (false) = (true) by first | exact absurd c8 (by rw [Env.same_self]; decide) | exact absurd c8 (by rw [Decl.same_self]; decide) | exact absurd c8 (by rw [all2_self Env.same_self]; decide) | exact absurd c8 (by rw [all2_self Part.same_self]; decide) | exact absurd c8 (by rw [all2_self Entry.same_self]; decide) | exact absurd (EnvS.marks_mark _ _) c8 | (rcases c8 with h9 | h9 <;> first | exact (h9 trivial).elim | exact absurd rfl h9 | exact absurd h9 (by rw [all2_self Env.same_self]; decide) | (simp only [Decl.marks, Env.marks] at h9; omega) | omega) | exact absurd (PartS.marks_mark _ _) c8 | (rw [PartS.marks_mark] at c8; omega) | (rcases c8 with h9 | h9; omega; exact absurd h9 (by rw [all2_self Part.same_self]; decide)) | omega | (rw [EnvS.marks_mark] at c8; omega))) .nil) (.dd .nil) rfl
         ·have c8 := of_decide_eq_false c8
          refine .skip <| .seq <| .seq <| .rs fun k50 => .mv rfl <| .mv rfl <| .bi rfl <| .z ?_
          refine .cond (t := (PartS.marks 1 (PartS.mark 1 (Parts.joinIn d a b))) != (PartS.marks 1 (Parts.joinIn d a b))) rfl (fun c9 => ?_) (fun c9 => ?_)
          ·have c9 := (by simpa using c9 : ¬ ((PartS.marks 1 (PartS.mark 1 (Parts.joinIn d a b))) = (PartS.marks 1 (Parts.joinIn d a b))))
           refine .seq <| .rs fun k51 => .as rfl <| .z <| .ret ?_
           exact fin0 (.inr rfl) (.one (svB (show (false) = (true) by first | exact absurd c9 (by rw [Env.same_self]; decide) | exact absurd c9 (by rw [Decl.same_self]; decide) | exact absurd c9 (by rw [all2_self Env.same_self]; decide) | exact absurd c9 (by rw [all2_self Part.same_self]; decide) | exact absurd c9 (by rw [all2_self Entry.same_self]; decide) | exact absurd (EnvS.marks_mark _ _) c9 | (rcases c9 with h9 | h9 <;> first | exact (h9 trivial).elim | exact absurd rfl h9 | exact absurd h9 (by rw [all2_self Env.same_self]; decide) | (simp only [Decl.marks, Env.marks] at h9; omega) | omega) | exact absurd (PartS.marks_mark _ _) c9 | (rw [PartS.marks_mark] at c9; omega) | (rcases c9 with h9 | h9; omega; exact absurd h9 (by rw [all2_self Part.same_self]; decide)) | omega | (rw [EnvS.marks_mark] at c9; omega))) .nil) (.dd .nil) rfl
          ·have c9 := (by simpa using c9 : (PartS.marks 1 (PartS.mark 1 (Parts.joinIn d a b))) = (PartS.marks 1 (Parts.joinIn d a b)))
           refine .skip <| .seq <| .rs fun k53 => .lda t25 rfl (.ptr _ _ _ _ _ rfl) rfl <| .c0 (c_toDecl d (by first | assumption | omega | exact ⟨‹_›, ‹_›⟩ | exact q1.1.1 | exact q1.1.2 | exact q2.1.1 | exact q2.1.2 | (simp only [Decl.marks, Env.marks, Env.mark, mkAll_len]; omega) | exact s1 | exact w1 | exact s9 | exact w9 | exact PartS.small_mark s9 | exact PartS.marked _ _ | (rw [PartS.wt_mark0]; exact w9) | exact s2 | exact w2)) rfl (.dd (.dd (.dd .nil))) (.own [97, 0] (.own [97, 1] (.own [97, 2] .nil))) rfl <| .mv rfl ?_
           refine .c0 (c_toPartS a (by first | assumption | omega | exact ⟨‹_›, ‹_›⟩ | exact q1.1.1 | exact q1.1.2 | exact q2.1.1 | exact q2.1.2 | (simp only [Decl.marks, Env.marks, Env.mark, mkAll_len]; omega) | exact s1 | exact w1 | exact s9 | exact w9 | exact PartS.small_mark s9 | exact PartS.marked _ _ | (rw [PartS.wt_mark0]; exact w9) | exact s2 | exact w2) (by first | assumption | omega | exact ⟨‹_›, ‹_›⟩ | exact q1.1.1 | exact q1.1.2 | exact q2.1.1 | exact q2.1.2 | (simp only [Decl.marks, Env.marks, Env.mark, mkAll_len]; omega) | exact s1 | exact w1 | exact s9 | exact w9 | exact PartS.small_mark s9 | exact PartS.marked _ _ | (rw [PartS.wt_mark0]; exact w9) | exact s2 | exact w2)) rfl (.dd .nil) (.own [99, 0] .nil) rfl <| .mv rfl ?_
           refine .c0 (c_toPartS b (by first | assumption | omega | exact ⟨‹_›, ‹_›⟩ | exact q1.1.1 | exact q1.1.2 | exact q2.1.1 | exact q2.1.2 | (simp only [Decl.marks, Env.marks, Env.mark, mkAll_len]; omega) | exact s1 | exact w1 | exact s9 | exact w9 | exact PartS.small_mark s9 | exact PartS.marked _ _ | (rw [PartS.wt_mark0]; exact w9) | exact s2 | exact w2) (by first | assumption | omega | exact ⟨‹_›, ‹_›⟩ | exact q1.1.1 | exact q1.1.2 | exact q2.1.1 | exact q2.1.2 | (simp only [Decl.marks, Env.marks, Env.mark, mkAll_len]; omega) | exact s1 | exact w1 | exact s9 | exact w9 | exact PartS.small_mark s9 | exact PartS.marked _ _ | (rw [PartS.wt_mark0]; exact w9) | exact s2 | exact w2)) rfl (.dd .nil) (.own [101, 0] .nil) rfl ?_
           refine .g (fun _ τ => ⟨_, .call (.no rfl) rfl [[97, 0], [97, 1], [97, 2], [99, 0], [101, 0]] [([97, 0], (k53 + 1, k53 + 1, .row 9 1 (List.map strc (d.vars)))), ([97, 1], (k53 + 1, k53 + 1, .row 9 1 (List.map strc (d.flags)))), ([97, 2], (k53 + 1, k53 + 1, .row 112 2 (List.map Arr.c (d.arrays)))), ([99, 0], (k53 + 1 + 1 + 1, k53 + 1 + 1 + 1, .row 62 2 (List.map Part.co62 (a)))), ([101, 0], (k53 + 1 + 1 + 1 + 1 + 1, k53 + 1 + 1 + 1 + 1 + 1, .row 62 2 (List.map Part.co62 (b))))] (c_PartsJoin d a b (by first | assumption | omega | exact ⟨‹_›, ‹_›⟩ | exact q1.1.1 | exact q1.1.2 | exact q2.1.1 | exact q2.1.2 | (simp only [Decl.marks, Env.marks, Env.mark, mkAll_len]; omega) | exact s1 | exact w1 | exact s9 | exact w9 | exact PartS.small_mark s9 | exact PartS.marked _ _ | (rw [PartS.wt_mark0]; exact w9) | exact s2 | exact w2) (by first | assumption | omega | exact ⟨‹_›, ‹_›⟩ | exact q1.1.1 | exact q1.1.2 | exact q2.1.1 | exact q2.1.2 | (simp only [Decl.marks, Env.marks, Env.mark, mkAll_len]; omega) | exact s1 | exact w1 | exact s9 | exact w9 | exact PartS.small_mark s9 | exact PartS.marked _ _ | (rw [PartS.wt_mark0]; exact w9) | exact s2 | exact w2)) rfl rfl rfl rfl rfl (.cons (Reads.ref (Frz.of_erase (erase_slo _ _ _ _ _ _ strc_e)) (.head _) (.head _)).gives (.cons (Reads.ref (Frz.of_erase (erase_slo _ _ _ _ _ _ strc_e)) (.tail _ (.head _)) (.tail _ (.head _))).gives (.cons (Reads.ref (Frz.of_erase (erase_slo _ _ _ _ _ _ Arr.c_e)) (.tail _ (.tail _ (.head _))) (.tail _ (.tail _ (.head _)))).gives (.cons (Reads.ref (Frz.of_erase (erase_slo _ _ _ _ _ _ Part.co62_e)) (.tail _ (.tail _ (.tail _ (.head _)))) (.tail _ (.tail _ (.tail _ (.head _))))).gives (.cons (Reads.ref (Frz.of_erase (erase_slo _ _ _ _ _ _ Part.co62_e)) (.tail _ (.tail _ (.tail _ (.tail _ (.head _))))) (.tail _ (.tail _ (.tail _ (.tail _ (.head _)))))).gives .nil))))) rfl rfl (fun _ => (ownCons (Owned.map _ _ _ _ Part.co62_o) ownNil)) (.own [102, 0] .nil) (.nil) rfl rfl rfl (AllH.get (.r rfl)) rfl rfl rfl τ⟩) ?_
           refine .as rfl <| .z <| .seq <| .seq <| .rs fun k54 => .mv rfl <| .mv rfl <| .g (fun _ τ => ⟨_, .call (.no rfl) rfl [[102, 0]] [([102, 0], (k53 + 1 + 1 + 1 + 1 + 1 + 1, k53 + 1 + 1 + 1 + 1 + 1 + 1, .row 62 2 (List.map Part.co62 (Parts.joinIn d a b))))] (c_eqPartS (Parts.joinIn d a b) (Parts.joinIn d a b)) rfl rfl rfl rfl rfl (.cons (Reads.ref (Frz.of_erase (erase_slo _ _ _ _ _ _ Part.co62_e)) (.head _) (.head _)).gives (.dd .nil)) rfl rfl (fun _ => (ownCons (Owned.v _) ownNil)) (.own [105, 0] .nil) (.nil) rfl rfl rfl (AllH.get (.r rfl)) rfl rfl rfl τ⟩) <| .un rfl ?_
           refine .z ?_
           refine .cond (t := !(all2 Part.same (Parts.joinIn d a b) (Parts.joinIn d a b))) rfl (fun c10 => ?_) (fun c10 => ?_)
           ·have c10 := (nT id) c10
            refine .seq <| .rs fun k55 => .as rfl <| .z <| .ret ?_
            exact fin0 (.inr rfl) (.one (svB (show (false) = (true) by first | exact absurd c10 (by rw [Env.same_self]; decide) | exact absurd c10 (by rw [Decl.same_self]; decide) | exact absurd c10 (by rw [all2_self Env.same_self]; decide) | exact absurd c10 (by rw [all2_self Part.same_self]; decide) | exact absurd c10 (by rw [all2_self Entry.same_self]; decide) | exact absurd (EnvS.marks_mark _ _) c10 | (rcases c10 with h9 | h9 <;> first | exact (h9 trivial).elim | exact absurd rfl h9 | exact absurd h9 (by rw [all2_self Env.same_self]; decide) | (simp only [Decl.marks, Env.marks] at h9; omega) | omega) | exact absurd (PartS.marks_mark _ _) c10 | (rw [PartS.marks_mark] at c10; omega) | (rcases c10 with h9 | h9; omega; exact absurd h9 (by rw [all2_self Part.same_self]; decide)) | omega | (rw [EnvS.marks_mark] at c10; omega))) .nil) (.dd .nil) rfl
           ·have c10 := (nF id) c10
            refine .skip <| .seq <| .rs fun k57 => .as rfl <| .z <| .seq <| .rs fun k58 => .mv rfl <| .mv rfl ?_
            refine .g (fun _ τ => ⟨_, .call (.no rfl) rfl [[48, 0]] [([48, 0], (g22, k44 + 1 + 1, .row 62 2 (List.map Part.co62 (PartS.mark 1 (Parts.joinIn d a b)))))] (c_heldPartS (PartS.mark 1 (Parts.joinIn d a b)) 1 (by first | assumption | omega | exact ⟨‹_›, ‹_›⟩ | exact q1.1.1 | exact q1.1.2 | exact q2.1.1 | exact q2.1.2 | (simp only [Decl.marks, Env.marks, Env.mark, mkAll_len]; omega) | exact s1 | exact w1 | exact s9 | exact w9 | exact PartS.small_mark s9 | exact PartS.marked _ _ | (rw [PartS.wt_mark0]; exact w9) | exact s2 | exact w2) (by first | assumption | omega | exact ⟨‹_›, ‹_›⟩ | exact q1.1.1 | exact q1.1.2 | exact q2.1.1 | exact q2.1.2 | (simp only [Decl.marks, Env.marks, Env.mark, mkAll_len]; omega) | exact s1 | exact w1 | exact s9 | exact w9 | exact PartS.small_mark s9 | exact PartS.marked _ _ | (rw [PartS.wt_mark0]; exact w9) | exact s2 | exact w2) (by first | assumption | omega | exact ⟨‹_›, ‹_›⟩ | exact q1.1.1 | exact q1.1.2 | exact q2.1.1 | exact q2.1.2 | (simp only [Decl.marks, Env.marks, Env.mark, mkAll_len]; omega) | exact s1 | exact w1 | exact s9 | exact w9 | exact PartS.small_mark s9 | exact PartS.marked _ _ | (rw [PartS.wt_mark0]; exact w9) | exact s2 | exact w2) (by first | assumption | omega | exact ⟨‹_›, ‹_›⟩ | exact q1.1.1 | exact q1.1.2 | exact q2.1.1 | exact q2.1.2 | (simp only [Decl.marks, Env.marks, Env.mark, mkAll_len]; omega) | exact s1 | exact w1 | exact s9 | exact w9 | exact PartS.small_mark s9 | exact PartS.marked _ _ | (rw [PartS.wt_mark0]; exact w9) | exact s2 | exact w2)) rfl rfl rfl rfl rfl (.cons (Reads.ref (Frz.of_erase (erase_slo _ _ _ _ _ _ Part.co62_e)) (.head _) (.head _)).gives (.dd .nil)) rfl rfl (fun _ => (ownCons (Owned.v _) ownNil)) (.own [109, 0] .nil) (.nil) rfl rfl rfl (AllH.get (.r rfl)) rfl rfl rfl τ⟩) ?_
            refine .as rfl <| .z <| .seq <| .seq <| .rs fun k59 => .mv rfl <| .bi rfl <| .z ?_
            refine .cond (t := decide ((PartS.marks 1 (PartS.mark 1 (Parts.joinIn d a b))) < 0)) rfl (fun c11 => ?_) (fun c11 => ?_)
            ·have c11 := of_decide_eq_true c11
             refine .seq <| .rs fun k60 => .as rfl <| .z <| .ret ?_
             exact fin0 (.inr rfl) (.one (svB (show (false) = (true) by first | exact absurd c11 (by rw [Env.same_self]; decide) | exact absurd c11 (by rw [Decl.same_self]; decide) | exact absurd c11 (by rw [all2_self Env.same_self]; decide) | exact absurd c11 (by rw [all2_self Part.same_self]; decide) | exact absurd c11 (by rw [all2_self Entry.same_self]; decide) | exact absurd (EnvS.marks_mark _ _) c11 | (rcases c11 with h9 | h9 <;> first | exact (h9 trivial).elim | exact absurd rfl h9 | exact absurd h9 (by rw [all2_self Env.same_self]; decide) | (simp only [Decl.marks, Env.marks] at h9; omega) | omega) | exact absurd (PartS.marks_mark _ _) c11 | (rw [PartS.marks_mark] at c11; omega) | (rcases c11 with h9 | h9; omega; exact absurd h9 (by rw [all2_self Part.same_self]; decide)) | omega | (rw [EnvS.marks_mark] at c11; omega))) .nil) (.dd .nil) rfl
            ·have c11 := of_decide_eq_false c11
             refine .skip <| .seq <| .seq <| .rs fun k62 => .mv rfl <| .mv rfl <| .bi rfl <| .z ?_
             refine .cond (t := (PartS.marks 1 (PartS.mark 1 (Parts.joinIn d a b))) != (PartS.marks 1 (Parts.joinIn d a b))) rfl (fun c12 => ?_) (fun c12 => ?_)
             ·have c12 := (by simpa using c12 : ¬ ((PartS.marks 1 (PartS.mark 1 (Parts.joinIn d a b))) = (PartS.marks 1 (Parts.joinIn d a b))))
              refine .seq <| .rs fun k63 => .as rfl <| .z <| .ret ?_
              exact fin0 (.inr rfl) (.one (svB (show (false) = (true) by first | exact absurd c12 (by rw [Env.same_self]; decide) | exact absurd c12 (by rw [Decl.same_self]; decide) | exact absurd c12 (by rw [all2_self Env.same_self]; decide) | exact absurd c12 (by rw [all2_self Part.same_self]; decide) | exact absurd c12 (by rw [all2_self Entry.same_self]; decide) | exact absurd (EnvS.marks_mark _ _) c12 | (rcases c12 with h9 | h9 <;> first | exact (h9 trivial).elim | exact absurd rfl h9 | exact absurd h9 (by rw [all2_self Env.same_self]; decide) | (simp only [Decl.marks, Env.marks] at h9; omega) | omega) | exact absurd (PartS.marks_mark _ _) c12 | (rw [PartS.marks_mark] at c12; omega) | (rcases c12 with h9 | h9; omega; exact absurd h9 (by rw [all2_self Part.same_self]; decide)) | omega | (rw [EnvS.marks_mark] at c12; omega))) .nil) (.dd .nil) rfl
             ·have c12 := (by simpa using c12 : (PartS.marks 1 (PartS.mark 1 (Parts.joinIn d a b))) = (PartS.marks 1 (Parts.joinIn d a b)))
              refine .skip <| .seq <| .rs fun k65 => .as rfl <| .z <| .ret ?_
              exact fin0 (.inr rfl) (.one rfl .nil) (.dd .nil) rfl
end Go.Proofs
