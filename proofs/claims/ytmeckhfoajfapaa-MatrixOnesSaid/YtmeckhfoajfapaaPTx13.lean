-- written by the session's own program (wip/prt.py) over the kit's print: not print.sh's own text
import Derived.Test.YtmeckhfoajfapaaPTx0
import Derived.Test.YtmeckhfoajfapaaPTx2
import Derived.Test.YtmeckhfoajfapaaPTx6
import Derived.Test.YtmeckhfoajfapaaPTx7
namespace Go.Proofs.Ytmeckhfoajfapaa.PT
open Go.RowKit Go.Proofs.YtmeckhfoajfapaaW.PrintWords Go.Proofs.YtmeckhfoajfapaaW.PrintLast Go.Proofs.YtmeckhfoajfapaaW.PrintMore
attribute [local go_sem] max2_int min2_int max_two min_two max_three min_three max_four min_four   -- for this text's walks alone
set_option linter.unusedVariables false
set_option linter.unusedSimpArgs false

/-! ### twoslotlaw03_alive: function 9 -/
def twoslotlaw03_alive.ok (k : Nat) : Prop := matrix_Mul.f k [[1, 2], [0, 1]] [[3], [4]] = some ([[11], [4]], 0) ∧ matrix_Cauchy.f 2 2 = some ([[142, 244], [244, 142]], 0) ∧ matrix_Rank.f k [[1, 2], [2, 4]] = some (1, 0) ∧ matrix_Inverse.f k [[2]] = some ([[142]], 0) ∧ matrix_Inverse.f k [[1, 1], [1, 1]] = some ([], 5) ∧ matrix_Mul.f k [[1, 2]] [[1, 2]] = some ([], 30) ∧ matrix_Pick.f k [[1], [2], [3]] [2, 0] = some ([[3], [1]], 0) ∧ matrix_Check.f k [] = some 30
instance twoslotlaw03_alive.okDec (k : Nat) : Decidable (twoslotlaw03_alive.ok k) := by unfold twoslotlaw03_alive.ok; infer_instance
def twoslotlaw03_alive.f (k : Nat) : Option Bool := if twoslotlaw03_alive.ok k then some true else none
theorem twoslotlaw03_alive.mono : ∀ k, LeO (twoslotlaw03_alive.f k) (twoslotlaw03_alive.f (k + 1)) := fun k r h => by
  unfold twoslotlaw03_alive.f at h ⊢
  by_cases e : twoslotlaw03_alive.ok k
  · rw [if_pos e] at h
    rw [if_pos ?_]; · exact h
    obtain ⟨h1, h2, h3, h4, h5, h6, h7, h8⟩ := e
    exact ⟨matrix_Mul.mono _ _ _ _ h1, h2, matrix_Rank.mono _ _ _ h3, matrix_Inverse.mono _ _ _ h4, matrix_Inverse.mono _ _ _ h5, matrix_Mul.mono _ _ _ _ h6, matrix_Pick.mono _ _ _ _ h7, matrix_Check.mono _ _ _ h8⟩
  · rw [if_neg e] at h; cases h
theorem twoslotlaw03_alive.sz (w : World) (o : Obj) : (w.alloc o).heap.size = w.heap.size + 1 := by simp
theorem twoslotlaw03_alive.own {W : World} {g : Nat} {xs : List Value} {e : TypeId} {cs : Array Value} (h : W.heap[g]? = some (.cells cs e (0, 0))) (hcs : cs = xs.toArray) (hl : xs.length ≤ 1000) : W.ownsRow 0 e 1 (.slice (some ⟨g, 0, none⟩) xs.length xs.length) xs.length xs := by
  subst hcs
  exact own_of_block (base := 0) h (Nat.zero_le _) (by simp [maxLen]; omega)
theorem twoslotlaw03_alive.lit {W : World} {g : Nat} {xs : List Int} {e : TypeId} {cs : Array Value} (h : W.heap[g]? = some (.cells cs e (0, 0))) (hcs : cs = (encs (Value.int .u8) xs).toArray) (hl : xs.length ≤ 1000) : Kd.C (Kd.int .u8) W (some ⟨g, 0, none⟩) xs.length xs := by
  have hown := twoslotlaw03_alive.own h hcs (by simpa [encs] using hl)
  have hlen : (encs (Value.int .u8) xs).length = xs.length := by simp [encs]
  rw [hlen] at hown
  exact (Kd.R_reads' (Kd.R_of_own (h1 := fun _ => rfl) (ok := fun _ => True) hown (fun _ _ => trivial))).2.2
theorem twoslotlaw03_alive.liti {W : World} {g : Nat} {xs : List Int} {e : TypeId} {cs : Array Value} (h : W.heap[g]? = some (.cells cs e (0, 0))) (hcs : cs = (encs (Value.int .i64) xs).toArray) (hl : xs.length ≤ 1000) : Kd.C (Kd.int .i64) W (some ⟨g, 0, none⟩) xs.length xs := by
  have hown := twoslotlaw03_alive.own h hcs (by simpa [encs] using hl)
  have hlen : (encs (Value.int .i64) xs).length = xs.length := by simp [encs]
  rw [hlen] at hown
  exact (Kd.R_reads' (Kd.R_of_own (h1 := fun _ => rfl) (ok := fun _ => True) hown (fun _ _ => trivial))).2.2
theorem twoslotlaw03_alive.lits {W : World} {g : Nat} {e : TypeId} (bs : List (Nat × List Int)) {cs : Array Value} (h : W.heap[g]? = some (.cells cs e (0, 0))) (hcs : cs = (bs.map fun p => Value.slice (some ⟨p.1, 0, none⟩) p.2.length p.2.length).toArray) (hl : bs.length ≤ 1000)
    (hb : ∀ p ∈ bs, Kd.C (Kd.int .u8) W (some ⟨p.1, 0, none⟩) p.2.length p.2) : Kd.C (Kd.slice 5 (Kd.int .u8)) W (some ⟨g, 0, none⟩) (bs.map (·.2)).length (bs.map (·.2)) := by
  subst hcs
  refine ⟨rfl, by simp; omega, fun _ => ⟨⟨g, 0, none⟩, rfl, fun j p hj => ?_⟩⟩
  have hjl : j < bs.length := by
    have := (List.getElem?_eq_some_iff.1 hj).1
    simpa using this
  have hp : p = bs[j].2 := by
    rw [List.getElem?_map, List.getElem?_eq_getElem hjl] at hj
    injection hj with hj
    exact hj.symm
  subst hp
  refine ⟨[.slice (some ⟨bs[j].1, 0, none⟩) bs[j].2.length bs[j].2.length], rfl, ⟨_, _, rfl, Nat.le_refl _, hb _ (List.getElem_mem hjl)⟩, fun i u hu => ?_⟩
  cases i with
  | zero =>
    injection hu with hu; subst hu
    have this2 : (⟨g, 0, none⟩ : Addr).add (j * (Kd.slice 5 (Kd.int .u8)).sz + 0) = ⟨g, j, none⟩ := by cases j <;> simp [Addr.add, Kd.slice]
    rw [this2, blk_cell h j]
    simp [hjl]
  | succ i => cases hu
set_option maxHeartbeats 8000000 in
set_option maxRecDepth 100000 in
theorem twoslotlaw03_alive.calls (k : Nat) (r : Bool) (w : World) (h : twoslotlaw03_alive.f k = some r) : Calls Try.prog 9 #[] w fun e w' => e = .returned (.bool r) ∧ Below w.heap.size w w' := by
  unfold twoslotlaw03_alive.f at h
  by_cases e : twoslotlaw03_alive.ok k
  case neg => rw [if_neg e] at h; cases h
  rw [if_pos e] at h
  injection h with h
  subst h
  obtain ⟨h1, h2, h3, h4, h5, h6, h7, h8⟩ := e
  have H1 := Lib.hid h1
  have H2 := Lib.hid h2
  have H3 := Lib.hid h3
  have H4 := Lib.hid h4
  have H5 := Lib.hid h5
  have H6 := Lib.hid h6
  have H7 := Lib.hid h7
  have H8 := Lib.hid h8
  clear h1 h2 h3 h4 h5 h6 h7 h8
  have sz := twoslotlaw03_alive.sz
  have SZ := Lib.hid sz
  clear sz
  go_enter Try.func9, Try.ntmps9
  have HB := Lib.hid (Below.refl w.heap.size w)
  have hX : Calls Try.prog 19 #[.slice (some ⟨w.heap.size + 2, 0, none⟩) 2 2, .slice (some ⟨w.heap.size + 5, 0, none⟩) 2 2] ((((((w.alloc (.cells #[.int .u8 1, .int .u8 2] 5)).alloc (.cells #[.int .u8 0, .int .u8 1] 5)).alloc (.cells #[.slice (some ⟨w.heap.size, 0, none⟩) 2 2, .slice (some ⟨w.heap.size + 1, 0, none⟩) 2 2] 34)).alloc (.cells #[.int .u8 3] 5)).alloc (.cells #[.int .u8 4] 5)).alloc (.cells #[.slice (some ⟨w.heap.size + 3, 0, none⟩) 1 1, .slice (some ⟨w.heap.size + 4, 0, none⟩) 1 1] 34)) (fun e w' => ∃ (A : Option Addr) (c : Nat), e = .returned (.tuple #[.slice A 2 c, .int .i64 0]) ∧ Kd.C (Kd.slice 5 (Kd.int .u8)) w' A 2 [[11], [4]] ∧ Below ((((((w.alloc (.cells #[.int .u8 1, .int .u8 2] 5)).alloc (.cells #[.int .u8 0, .int .u8 1] 5)).alloc (.cells #[.slice (some ⟨w.heap.size, 0, none⟩) 2 2, .slice (some ⟨w.heap.size + 1, 0, none⟩) 2 2] 34)).alloc (.cells #[.int .u8 3] 5)).alloc (.cells #[.int .u8 4] 5)).alloc (.cells #[.slice (some ⟨w.heap.size + 3, 0, none⟩) 1 1, .slice (some ⟨w.heap.size + 4, 0, none⟩) 1 1] 34)).heap.size ((((((w.alloc (.cells #[.int .u8 1, .int .u8 2] 5)).alloc (.cells #[.int .u8 0, .int .u8 1] 5)).alloc (.cells #[.slice (some ⟨w.heap.size, 0, none⟩) 2 2, .slice (some ⟨w.heap.size + 1, 0, none⟩) 2 2] 34)).alloc (.cells #[.int .u8 3] 5)).alloc (.cells #[.int .u8 4] 5)).alloc (.cells #[.slice (some ⟨w.heap.size + 3, 0, none⟩) 1 1, .slice (some ⟨w.heap.size + 4, 0, none⟩) 1 1] 34)) w') := by
    have hl0_0 : Kd.C (Kd.int .u8) ((((((w.alloc (.cells #[.int .u8 1, .int .u8 2] 5)).alloc (.cells #[.int .u8 0, .int .u8 1] 5)).alloc (.cells #[.slice (some ⟨w.heap.size, 0, none⟩) 2 2, .slice (some ⟨w.heap.size + 1, 0, none⟩) 2 2] 34)).alloc (.cells #[.int .u8 3] 5)).alloc (.cells #[.int .u8 4] 5)).alloc (.cells #[.slice (some ⟨w.heap.size + 3, 0, none⟩) 1 1, .slice (some ⟨w.heap.size + 4, 0, none⟩) 1 1] 34)) (some ⟨w.heap.size, 0, none⟩) 2 [1, 2] := twoslotlaw03_alive.lit (xs := [1, 2]) (blk_alloc (blk_alloc (blk_alloc (blk_alloc (blk_alloc (heap_alloc_at (w := w) _ _ (by first | rfl | simp only [SZ.out])) _) _) _) _) _) (by simp [encs]) (by decide)
    have hl0_1 : Kd.C (Kd.int .u8) ((((((w.alloc (.cells #[.int .u8 1, .int .u8 2] 5)).alloc (.cells #[.int .u8 0, .int .u8 1] 5)).alloc (.cells #[.slice (some ⟨w.heap.size, 0, none⟩) 2 2, .slice (some ⟨w.heap.size + 1, 0, none⟩) 2 2] 34)).alloc (.cells #[.int .u8 3] 5)).alloc (.cells #[.int .u8 4] 5)).alloc (.cells #[.slice (some ⟨w.heap.size + 3, 0, none⟩) 1 1, .slice (some ⟨w.heap.size + 4, 0, none⟩) 1 1] 34)) (some ⟨w.heap.size + 1, 0, none⟩) 2 [0, 1] := twoslotlaw03_alive.lit (xs := [0, 1]) (blk_alloc (blk_alloc (blk_alloc (blk_alloc (heap_alloc_at (w := (w.alloc (.cells #[.int .u8 1, .int .u8 2] 5))) _ _ (by first | rfl | simp only [SZ.out])) _) _) _) _) (by simp [encs]) (by decide)
    have hm0 : Kd.C (Kd.slice 5 (Kd.int .u8)) ((((((w.alloc (.cells #[.int .u8 1, .int .u8 2] 5)).alloc (.cells #[.int .u8 0, .int .u8 1] 5)).alloc (.cells #[.slice (some ⟨w.heap.size, 0, none⟩) 2 2, .slice (some ⟨w.heap.size + 1, 0, none⟩) 2 2] 34)).alloc (.cells #[.int .u8 3] 5)).alloc (.cells #[.int .u8 4] 5)).alloc (.cells #[.slice (some ⟨w.heap.size + 3, 0, none⟩) 1 1, .slice (some ⟨w.heap.size + 4, 0, none⟩) 1 1] 34)) (some ⟨w.heap.size + 2, 0, none⟩) 2 [[1, 2], [0, 1]] := twoslotlaw03_alive.lits [(w.heap.size, [1, 2]), (w.heap.size + 1, [0, 1])] (blk_alloc (blk_alloc (blk_alloc (heap_alloc_at (w := ((w.alloc (.cells #[.int .u8 1, .int .u8 2] 5)).alloc (.cells #[.int .u8 0, .int .u8 1] 5))) _ _ (by first | rfl | simp only [SZ.out])) _) _) _) rfl (by simp) (fun p hp => by
      simp only [List.mem_cons, List.not_mem_nil, or_false] at hp
      rcases hp with rfl | rfl
      · exact hl0_0
      · exact hl0_1
      )
    have hl1_0 : Kd.C (Kd.int .u8) ((((((w.alloc (.cells #[.int .u8 1, .int .u8 2] 5)).alloc (.cells #[.int .u8 0, .int .u8 1] 5)).alloc (.cells #[.slice (some ⟨w.heap.size, 0, none⟩) 2 2, .slice (some ⟨w.heap.size + 1, 0, none⟩) 2 2] 34)).alloc (.cells #[.int .u8 3] 5)).alloc (.cells #[.int .u8 4] 5)).alloc (.cells #[.slice (some ⟨w.heap.size + 3, 0, none⟩) 1 1, .slice (some ⟨w.heap.size + 4, 0, none⟩) 1 1] 34)) (some ⟨w.heap.size + 3, 0, none⟩) 1 [3] := twoslotlaw03_alive.lit (xs := [3]) (blk_alloc (blk_alloc (heap_alloc_at (w := (((w.alloc (.cells #[.int .u8 1, .int .u8 2] 5)).alloc (.cells #[.int .u8 0, .int .u8 1] 5)).alloc (.cells #[.slice (some ⟨w.heap.size, 0, none⟩) 2 2, .slice (some ⟨w.heap.size + 1, 0, none⟩) 2 2] 34))) _ _ (by first | rfl | simp only [SZ.out])) _) _) (by simp [encs]) (by decide)
    have hl1_1 : Kd.C (Kd.int .u8) ((((((w.alloc (.cells #[.int .u8 1, .int .u8 2] 5)).alloc (.cells #[.int .u8 0, .int .u8 1] 5)).alloc (.cells #[.slice (some ⟨w.heap.size, 0, none⟩) 2 2, .slice (some ⟨w.heap.size + 1, 0, none⟩) 2 2] 34)).alloc (.cells #[.int .u8 3] 5)).alloc (.cells #[.int .u8 4] 5)).alloc (.cells #[.slice (some ⟨w.heap.size + 3, 0, none⟩) 1 1, .slice (some ⟨w.heap.size + 4, 0, none⟩) 1 1] 34)) (some ⟨w.heap.size + 4, 0, none⟩) 1 [4] := twoslotlaw03_alive.lit (xs := [4]) (blk_alloc (heap_alloc_at (w := ((((w.alloc (.cells #[.int .u8 1, .int .u8 2] 5)).alloc (.cells #[.int .u8 0, .int .u8 1] 5)).alloc (.cells #[.slice (some ⟨w.heap.size, 0, none⟩) 2 2, .slice (some ⟨w.heap.size + 1, 0, none⟩) 2 2] 34)).alloc (.cells #[.int .u8 3] 5))) _ _ (by first | rfl | simp only [SZ.out])) _) (by simp [encs]) (by decide)
    have hm1 : Kd.C (Kd.slice 5 (Kd.int .u8)) ((((((w.alloc (.cells #[.int .u8 1, .int .u8 2] 5)).alloc (.cells #[.int .u8 0, .int .u8 1] 5)).alloc (.cells #[.slice (some ⟨w.heap.size, 0, none⟩) 2 2, .slice (some ⟨w.heap.size + 1, 0, none⟩) 2 2] 34)).alloc (.cells #[.int .u8 3] 5)).alloc (.cells #[.int .u8 4] 5)).alloc (.cells #[.slice (some ⟨w.heap.size + 3, 0, none⟩) 1 1, .slice (some ⟨w.heap.size + 4, 0, none⟩) 1 1] 34)) (some ⟨w.heap.size + 5, 0, none⟩) 2 [[3], [4]] := twoslotlaw03_alive.lits [(w.heap.size + 3, [3]), (w.heap.size + 4, [4])] (heap_alloc_at (w := (((((w.alloc (.cells #[.int .u8 1, .int .u8 2] 5)).alloc (.cells #[.int .u8 0, .int .u8 1] 5)).alloc (.cells #[.slice (some ⟨w.heap.size, 0, none⟩) 2 2, .slice (some ⟨w.heap.size + 1, 0, none⟩) 2 2] 34)).alloc (.cells #[.int .u8 3] 5)).alloc (.cells #[.int .u8 4] 5))) _ _ (by first | rfl | simp only [SZ.out])) rfl (by simp) (fun p hp => by
      simp only [List.mem_cons, List.not_mem_nil, or_false] at hp
      rcases hp with rfl | rfl
      · exact hl1_0
      · exact hl1_1
      )
    refine (matrix_Mul.calls k (some ⟨w.heap.size + 2, 0, none⟩) 2 [[1, 2], [0, 1]] (some ⟨w.heap.size + 5, 0, none⟩) 2 [[3], [4]] [[11], [4]] 0 _ hm0 (by decide) hm1 (by decide) H1.out).mono ?_
    rintro e w' ⟨v, rfl, hv, hb⟩
    obtain ⟨A, c, rfl, -, hc⟩ := Kd.S_reads hv
    exact ⟨A, c, rfl, hc, hb⟩
  have HX := Lib.hid hX
  clear hX
  go_wp2_with fail
  refine HX.out.mono ?_
  rintro e w1 ⟨A1, c1, rfl, hv, hb⟩
  have hb2 := below_step (below_alloc (below_alloc (below_alloc (below_alloc (below_alloc (below_alloc (Below.refl w.heap.size w) _) _) _) _) _) _) hb
  replace HB := Lib.hid (below_step HB.out hb2)
  have V1 := Lib.hid hv
  clear hv
  clear hb hb2 HX
  have hX : Calls Try.prog 11 #[.int .i64 2, .int .i64 2] w1 (fun e w' => ∃ (A : Option Addr) (c : Nat), e = .returned (.tuple #[.slice A 2 c, .int .i64 0]) ∧ Kd.C (Kd.slice 5 (Kd.int .u8)) w' A 2 [[142, 244], [244, 142]] ∧ Below w1.heap.size w1 w') := by
    refine (matrix_Cauchy.calls 2 2 [[142, 244], [244, 142]] 0 _  H2.out).mono ?_
    rintro e w' ⟨v, rfl, hv, hb⟩
    obtain ⟨A, c, rfl, -, hc⟩ := Kd.S_reads hv
    exact ⟨A, c, rfl, hc, hb⟩
  have HX := Lib.hid hX
  clear hX
  go_wp2_with fail
  refine HX.out.mono ?_
  rintro e w2 ⟨A2, c2, rfl, hv, hb⟩
  have hb2 := below_step (Below.refl w1.heap.size w1) hb
  replace V1 := Lib.hid (Kd.C_below V1.out hb2)
  replace HB := Lib.hid (below_step HB.out hb2)
  have V2 := Lib.hid hv
  clear hv
  clear hb hb2 HX
  have hX : Calls Try.prog 24 #[.slice (some ⟨w2.heap.size + 2, 0, none⟩) 2 2] (((w2.alloc (.cells #[.int .u8 1, .int .u8 2] 5)).alloc (.cells #[.int .u8 2, .int .u8 4] 5)).alloc (.cells #[.slice (some ⟨w2.heap.size, 0, none⟩) 2 2, .slice (some ⟨w2.heap.size + 1, 0, none⟩) 2 2] 34)) (fun e w' => e = .returned (.tuple #[.int .i64 1, .int .i64 0]) ∧ Below (((w2.alloc (.cells #[.int .u8 1, .int .u8 2] 5)).alloc (.cells #[.int .u8 2, .int .u8 4] 5)).alloc (.cells #[.slice (some ⟨w2.heap.size, 0, none⟩) 2 2, .slice (some ⟨w2.heap.size + 1, 0, none⟩) 2 2] 34)).heap.size (((w2.alloc (.cells #[.int .u8 1, .int .u8 2] 5)).alloc (.cells #[.int .u8 2, .int .u8 4] 5)).alloc (.cells #[.slice (some ⟨w2.heap.size, 0, none⟩) 2 2, .slice (some ⟨w2.heap.size + 1, 0, none⟩) 2 2] 34)) w') := by
    have hl0_0 : Kd.C (Kd.int .u8) (((w2.alloc (.cells #[.int .u8 1, .int .u8 2] 5)).alloc (.cells #[.int .u8 2, .int .u8 4] 5)).alloc (.cells #[.slice (some ⟨w2.heap.size, 0, none⟩) 2 2, .slice (some ⟨w2.heap.size + 1, 0, none⟩) 2 2] 34)) (some ⟨w2.heap.size, 0, none⟩) 2 [1, 2] := twoslotlaw03_alive.lit (xs := [1, 2]) (blk_alloc (blk_alloc (heap_alloc_at (w := w2) _ _ (by first | rfl | simp only [SZ.out])) _) _) (by simp [encs]) (by decide)
    have hl0_1 : Kd.C (Kd.int .u8) (((w2.alloc (.cells #[.int .u8 1, .int .u8 2] 5)).alloc (.cells #[.int .u8 2, .int .u8 4] 5)).alloc (.cells #[.slice (some ⟨w2.heap.size, 0, none⟩) 2 2, .slice (some ⟨w2.heap.size + 1, 0, none⟩) 2 2] 34)) (some ⟨w2.heap.size + 1, 0, none⟩) 2 [2, 4] := twoslotlaw03_alive.lit (xs := [2, 4]) (blk_alloc (heap_alloc_at (w := (w2.alloc (.cells #[.int .u8 1, .int .u8 2] 5))) _ _ (by first | rfl | simp only [SZ.out])) _) (by simp [encs]) (by decide)
    have hm0 : Kd.C (Kd.slice 5 (Kd.int .u8)) (((w2.alloc (.cells #[.int .u8 1, .int .u8 2] 5)).alloc (.cells #[.int .u8 2, .int .u8 4] 5)).alloc (.cells #[.slice (some ⟨w2.heap.size, 0, none⟩) 2 2, .slice (some ⟨w2.heap.size + 1, 0, none⟩) 2 2] 34)) (some ⟨w2.heap.size + 2, 0, none⟩) 2 [[1, 2], [2, 4]] := twoslotlaw03_alive.lits [(w2.heap.size, [1, 2]), (w2.heap.size + 1, [2, 4])] (heap_alloc_at (w := ((w2.alloc (.cells #[.int .u8 1, .int .u8 2] 5)).alloc (.cells #[.int .u8 2, .int .u8 4] 5))) _ _ (by first | rfl | simp only [SZ.out])) rfl (by simp) (fun p hp => by
      simp only [List.mem_cons, List.not_mem_nil, or_false] at hp
      rcases hp with rfl | rfl
      · exact hl0_0
      · exact hl0_1
      )
    refine (matrix_Rank.calls k (some ⟨w2.heap.size + 2, 0, none⟩) 2 [[1, 2], [2, 4]] 1 0 _ hm0 (by decide) H3.out).mono ?_
    exact fun e w' h => h
  have HX := Lib.hid hX
  clear hX
  go_wp2_with fail
  refine HX.out.mono ?_
  rintro e w3 ⟨rfl, hb⟩
  have hb2 := below_step (below_alloc (below_alloc (below_alloc (Below.refl w2.heap.size w2) _) _) _) hb
  replace V1 := Lib.hid (Kd.C_below V1.out hb2)
  replace V2 := Lib.hid (Kd.C_below V2.out hb2)
  replace HB := Lib.hid (below_step HB.out hb2)
  clear hb hb2 HX
  have hX : Calls Try.prog 15 #[.slice (some ⟨w3.heap.size + 1, 0, none⟩) 1 1] ((w3.alloc (.cells #[.int .u8 2] 5)).alloc (.cells #[.slice (some ⟨w3.heap.size, 0, none⟩) 1 1] 34)) (fun e w' => ∃ (A : Option Addr) (c : Nat), e = .returned (.tuple #[.slice A 1 c, .int .i64 0]) ∧ Kd.C (Kd.slice 5 (Kd.int .u8)) w' A 1 [[142]] ∧ Below ((w3.alloc (.cells #[.int .u8 2] 5)).alloc (.cells #[.slice (some ⟨w3.heap.size, 0, none⟩) 1 1] 34)).heap.size ((w3.alloc (.cells #[.int .u8 2] 5)).alloc (.cells #[.slice (some ⟨w3.heap.size, 0, none⟩) 1 1] 34)) w') := by
    have hl0_0 : Kd.C (Kd.int .u8) ((w3.alloc (.cells #[.int .u8 2] 5)).alloc (.cells #[.slice (some ⟨w3.heap.size, 0, none⟩) 1 1] 34)) (some ⟨w3.heap.size, 0, none⟩) 1 [2] := twoslotlaw03_alive.lit (xs := [2]) (blk_alloc (heap_alloc_at (w := w3) _ _ (by first | rfl | simp only [SZ.out])) _) (by simp [encs]) (by decide)
    have hm0 : Kd.C (Kd.slice 5 (Kd.int .u8)) ((w3.alloc (.cells #[.int .u8 2] 5)).alloc (.cells #[.slice (some ⟨w3.heap.size, 0, none⟩) 1 1] 34)) (some ⟨w3.heap.size + 1, 0, none⟩) 1 [[2]] := twoslotlaw03_alive.lits [(w3.heap.size, [2])] (heap_alloc_at (w := (w3.alloc (.cells #[.int .u8 2] 5))) _ _ (by first | rfl | simp only [SZ.out])) rfl (by simp) (fun p hp => by
      simp only [List.mem_cons, List.not_mem_nil, or_false] at hp
      rcases hp with rfl
      exact hl0_0
      )
    refine (matrix_Inverse.calls k (some ⟨w3.heap.size + 1, 0, none⟩) 1 [[2]] [[142]] 0 _ hm0 (by decide) H4.out).mono ?_
    rintro e w' ⟨v, rfl, hv, hb⟩
    obtain ⟨A, c, rfl, -, hc⟩ := Kd.S_reads hv
    exact ⟨A, c, rfl, hc, hb⟩
  have HX := Lib.hid hX
  clear hX
  go_wp2_with fail
  refine HX.out.mono ?_
  rintro e w4 ⟨A4, c4, rfl, hv, hb⟩
  have hb2 := below_step (below_alloc (below_alloc (Below.refl w3.heap.size w3) _) _) hb
  replace V1 := Lib.hid (Kd.C_below V1.out hb2)
  replace V2 := Lib.hid (Kd.C_below V2.out hb2)
  replace HB := Lib.hid (below_step HB.out hb2)
  have V4 := Lib.hid hv
  clear hv
  clear hb hb2 HX
  have hX : Calls Try.prog 15 #[.slice (some ⟨w4.heap.size + 2, 0, none⟩) 2 2] (((w4.alloc (.cells #[.int .u8 1, .int .u8 1] 5)).alloc (.cells #[.int .u8 1, .int .u8 1] 5)).alloc (.cells #[.slice (some ⟨w4.heap.size, 0, none⟩) 2 2, .slice (some ⟨w4.heap.size + 1, 0, none⟩) 2 2] 34)) (fun e w' => ∃ (A : Option Addr) (c : Nat), e = .returned (.tuple #[.slice A 0 c, .int .i64 5]) ∧ Kd.C (Kd.slice 5 (Kd.int .u8)) w' A 0 [] ∧ Below (((w4.alloc (.cells #[.int .u8 1, .int .u8 1] 5)).alloc (.cells #[.int .u8 1, .int .u8 1] 5)).alloc (.cells #[.slice (some ⟨w4.heap.size, 0, none⟩) 2 2, .slice (some ⟨w4.heap.size + 1, 0, none⟩) 2 2] 34)).heap.size (((w4.alloc (.cells #[.int .u8 1, .int .u8 1] 5)).alloc (.cells #[.int .u8 1, .int .u8 1] 5)).alloc (.cells #[.slice (some ⟨w4.heap.size, 0, none⟩) 2 2, .slice (some ⟨w4.heap.size + 1, 0, none⟩) 2 2] 34)) w') := by
    have hl0_0 : Kd.C (Kd.int .u8) (((w4.alloc (.cells #[.int .u8 1, .int .u8 1] 5)).alloc (.cells #[.int .u8 1, .int .u8 1] 5)).alloc (.cells #[.slice (some ⟨w4.heap.size, 0, none⟩) 2 2, .slice (some ⟨w4.heap.size + 1, 0, none⟩) 2 2] 34)) (some ⟨w4.heap.size, 0, none⟩) 2 [1, 1] := twoslotlaw03_alive.lit (xs := [1, 1]) (blk_alloc (blk_alloc (heap_alloc_at (w := w4) _ _ (by first | rfl | simp only [SZ.out])) _) _) (by simp [encs]) (by decide)
    have hl0_1 : Kd.C (Kd.int .u8) (((w4.alloc (.cells #[.int .u8 1, .int .u8 1] 5)).alloc (.cells #[.int .u8 1, .int .u8 1] 5)).alloc (.cells #[.slice (some ⟨w4.heap.size, 0, none⟩) 2 2, .slice (some ⟨w4.heap.size + 1, 0, none⟩) 2 2] 34)) (some ⟨w4.heap.size + 1, 0, none⟩) 2 [1, 1] := twoslotlaw03_alive.lit (xs := [1, 1]) (blk_alloc (heap_alloc_at (w := (w4.alloc (.cells #[.int .u8 1, .int .u8 1] 5))) _ _ (by first | rfl | simp only [SZ.out])) _) (by simp [encs]) (by decide)
    have hm0 : Kd.C (Kd.slice 5 (Kd.int .u8)) (((w4.alloc (.cells #[.int .u8 1, .int .u8 1] 5)).alloc (.cells #[.int .u8 1, .int .u8 1] 5)).alloc (.cells #[.slice (some ⟨w4.heap.size, 0, none⟩) 2 2, .slice (some ⟨w4.heap.size + 1, 0, none⟩) 2 2] 34)) (some ⟨w4.heap.size + 2, 0, none⟩) 2 [[1, 1], [1, 1]] := twoslotlaw03_alive.lits [(w4.heap.size, [1, 1]), (w4.heap.size + 1, [1, 1])] (heap_alloc_at (w := ((w4.alloc (.cells #[.int .u8 1, .int .u8 1] 5)).alloc (.cells #[.int .u8 1, .int .u8 1] 5))) _ _ (by first | rfl | simp only [SZ.out])) rfl (by simp) (fun p hp => by
      simp only [List.mem_cons, List.not_mem_nil, or_false] at hp
      rcases hp with rfl | rfl
      · exact hl0_0
      · exact hl0_1
      )
    refine (matrix_Inverse.calls k (some ⟨w4.heap.size + 2, 0, none⟩) 2 [[1, 1], [1, 1]] [] 5 _ hm0 (by decide) H5.out).mono ?_
    rintro e w' ⟨v, rfl, hv, hb⟩
    obtain ⟨A, c, rfl, -, hc⟩ := Kd.S_reads hv
    exact ⟨A, c, rfl, hc, hb⟩
  have HX := Lib.hid hX
  clear hX
  go_wp2_with fail
  refine HX.out.mono ?_
  rintro e w5 ⟨A5, c5, rfl, hv, hb⟩
  have hb2 := below_step (below_alloc (below_alloc (below_alloc (Below.refl w4.heap.size w4) _) _) _) hb
  replace V1 := Lib.hid (Kd.C_below V1.out hb2)
  replace V2 := Lib.hid (Kd.C_below V2.out hb2)
  replace V4 := Lib.hid (Kd.C_below V4.out hb2)
  replace HB := Lib.hid (below_step HB.out hb2)
  clear hv
  clear hb hb2 HX
  have hX : Calls Try.prog 19 #[.slice (some ⟨w5.heap.size + 1, 0, none⟩) 1 1, .slice (some ⟨w5.heap.size + 3, 0, none⟩) 1 1] ((((w5.alloc (.cells #[.int .u8 1, .int .u8 2] 5)).alloc (.cells #[.slice (some ⟨w5.heap.size, 0, none⟩) 2 2] 34)).alloc (.cells #[.int .u8 1, .int .u8 2] 5)).alloc (.cells #[.slice (some ⟨w5.heap.size + 2, 0, none⟩) 2 2] 34)) (fun e w' => ∃ (A : Option Addr) (c : Nat), e = .returned (.tuple #[.slice A 0 c, .int .i64 30]) ∧ Kd.C (Kd.slice 5 (Kd.int .u8)) w' A 0 [] ∧ Below ((((w5.alloc (.cells #[.int .u8 1, .int .u8 2] 5)).alloc (.cells #[.slice (some ⟨w5.heap.size, 0, none⟩) 2 2] 34)).alloc (.cells #[.int .u8 1, .int .u8 2] 5)).alloc (.cells #[.slice (some ⟨w5.heap.size + 2, 0, none⟩) 2 2] 34)).heap.size ((((w5.alloc (.cells #[.int .u8 1, .int .u8 2] 5)).alloc (.cells #[.slice (some ⟨w5.heap.size, 0, none⟩) 2 2] 34)).alloc (.cells #[.int .u8 1, .int .u8 2] 5)).alloc (.cells #[.slice (some ⟨w5.heap.size + 2, 0, none⟩) 2 2] 34)) w') := by
    have hl0_0 : Kd.C (Kd.int .u8) ((((w5.alloc (.cells #[.int .u8 1, .int .u8 2] 5)).alloc (.cells #[.slice (some ⟨w5.heap.size, 0, none⟩) 2 2] 34)).alloc (.cells #[.int .u8 1, .int .u8 2] 5)).alloc (.cells #[.slice (some ⟨w5.heap.size + 2, 0, none⟩) 2 2] 34)) (some ⟨w5.heap.size, 0, none⟩) 2 [1, 2] := twoslotlaw03_alive.lit (xs := [1, 2]) (blk_alloc (blk_alloc (blk_alloc (heap_alloc_at (w := w5) _ _ (by first | rfl | simp only [SZ.out])) _) _) _) (by simp [encs]) (by decide)
    have hm0 : Kd.C (Kd.slice 5 (Kd.int .u8)) ((((w5.alloc (.cells #[.int .u8 1, .int .u8 2] 5)).alloc (.cells #[.slice (some ⟨w5.heap.size, 0, none⟩) 2 2] 34)).alloc (.cells #[.int .u8 1, .int .u8 2] 5)).alloc (.cells #[.slice (some ⟨w5.heap.size + 2, 0, none⟩) 2 2] 34)) (some ⟨w5.heap.size + 1, 0, none⟩) 1 [[1, 2]] := twoslotlaw03_alive.lits [(w5.heap.size, [1, 2])] (blk_alloc (blk_alloc (heap_alloc_at (w := (w5.alloc (.cells #[.int .u8 1, .int .u8 2] 5))) _ _ (by first | rfl | simp only [SZ.out])) _) _) rfl (by simp) (fun p hp => by
      simp only [List.mem_cons, List.not_mem_nil, or_false] at hp
      rcases hp with rfl
      exact hl0_0
      )
    have hl1_0 : Kd.C (Kd.int .u8) ((((w5.alloc (.cells #[.int .u8 1, .int .u8 2] 5)).alloc (.cells #[.slice (some ⟨w5.heap.size, 0, none⟩) 2 2] 34)).alloc (.cells #[.int .u8 1, .int .u8 2] 5)).alloc (.cells #[.slice (some ⟨w5.heap.size + 2, 0, none⟩) 2 2] 34)) (some ⟨w5.heap.size + 2, 0, none⟩) 2 [1, 2] := twoslotlaw03_alive.lit (xs := [1, 2]) (blk_alloc (heap_alloc_at (w := ((w5.alloc (.cells #[.int .u8 1, .int .u8 2] 5)).alloc (.cells #[.slice (some ⟨w5.heap.size, 0, none⟩) 2 2] 34))) _ _ (by first | rfl | simp only [SZ.out])) _) (by simp [encs]) (by decide)
    have hm1 : Kd.C (Kd.slice 5 (Kd.int .u8)) ((((w5.alloc (.cells #[.int .u8 1, .int .u8 2] 5)).alloc (.cells #[.slice (some ⟨w5.heap.size, 0, none⟩) 2 2] 34)).alloc (.cells #[.int .u8 1, .int .u8 2] 5)).alloc (.cells #[.slice (some ⟨w5.heap.size + 2, 0, none⟩) 2 2] 34)) (some ⟨w5.heap.size + 3, 0, none⟩) 1 [[1, 2]] := twoslotlaw03_alive.lits [(w5.heap.size + 2, [1, 2])] (heap_alloc_at (w := (((w5.alloc (.cells #[.int .u8 1, .int .u8 2] 5)).alloc (.cells #[.slice (some ⟨w5.heap.size, 0, none⟩) 2 2] 34)).alloc (.cells #[.int .u8 1, .int .u8 2] 5))) _ _ (by first | rfl | simp only [SZ.out])) rfl (by simp) (fun p hp => by
      simp only [List.mem_cons, List.not_mem_nil, or_false] at hp
      rcases hp with rfl
      exact hl1_0
      )
    refine (matrix_Mul.calls k (some ⟨w5.heap.size + 1, 0, none⟩) 1 [[1, 2]] (some ⟨w5.heap.size + 3, 0, none⟩) 1 [[1, 2]] [] 30 _ hm0 (by decide) hm1 (by decide) H6.out).mono ?_
    rintro e w' ⟨v, rfl, hv, hb⟩
    obtain ⟨A, c, rfl, -, hc⟩ := Kd.S_reads hv
    exact ⟨A, c, rfl, hc, hb⟩
  have HX := Lib.hid hX
  clear hX
  go_wp2_with fail
  refine HX.out.mono ?_
  rintro e w6 ⟨A6, c6, rfl, hv, hb⟩
  have hb2 := below_step (below_alloc (below_alloc (below_alloc (below_alloc (Below.refl w5.heap.size w5) _) _) _) _) hb
  replace V1 := Lib.hid (Kd.C_below V1.out hb2)
  replace V2 := Lib.hid (Kd.C_below V2.out hb2)
  replace V4 := Lib.hid (Kd.C_below V4.out hb2)
  replace HB := Lib.hid (below_step HB.out hb2)
  clear hv
  clear hb hb2 HX
  have hX : Calls Try.prog 12 #[.slice (some ⟨w6.heap.size + 3, 0, none⟩) 3 3, .slice (some ⟨w6.heap.size + 4, 0, none⟩) 2 2] (((((w6.alloc (.cells #[.int .u8 1] 5)).alloc (.cells #[.int .u8 2] 5)).alloc (.cells #[.int .u8 3] 5)).alloc (.cells #[.slice (some ⟨w6.heap.size, 0, none⟩) 1 1, .slice (some ⟨w6.heap.size + 1, 0, none⟩) 1 1, .slice (some ⟨w6.heap.size + 2, 0, none⟩) 1 1] 34)).alloc (.cells #[.int .i64 2, .int .i64 0] 3)) (fun e w' => ∃ (A : Option Addr) (c : Nat), e = .returned (.tuple #[.slice A 2 c, .int .i64 0]) ∧ Kd.C (Kd.slice 5 (Kd.int .u8)) w' A 2 [[3], [1]] ∧ Below (((((w6.alloc (.cells #[.int .u8 1] 5)).alloc (.cells #[.int .u8 2] 5)).alloc (.cells #[.int .u8 3] 5)).alloc (.cells #[.slice (some ⟨w6.heap.size, 0, none⟩) 1 1, .slice (some ⟨w6.heap.size + 1, 0, none⟩) 1 1, .slice (some ⟨w6.heap.size + 2, 0, none⟩) 1 1] 34)).alloc (.cells #[.int .i64 2, .int .i64 0] 3)).heap.size (((((w6.alloc (.cells #[.int .u8 1] 5)).alloc (.cells #[.int .u8 2] 5)).alloc (.cells #[.int .u8 3] 5)).alloc (.cells #[.slice (some ⟨w6.heap.size, 0, none⟩) 1 1, .slice (some ⟨w6.heap.size + 1, 0, none⟩) 1 1, .slice (some ⟨w6.heap.size + 2, 0, none⟩) 1 1] 34)).alloc (.cells #[.int .i64 2, .int .i64 0] 3)) w') := by
    have hl0_0 : Kd.C (Kd.int .u8) (((((w6.alloc (.cells #[.int .u8 1] 5)).alloc (.cells #[.int .u8 2] 5)).alloc (.cells #[.int .u8 3] 5)).alloc (.cells #[.slice (some ⟨w6.heap.size, 0, none⟩) 1 1, .slice (some ⟨w6.heap.size + 1, 0, none⟩) 1 1, .slice (some ⟨w6.heap.size + 2, 0, none⟩) 1 1] 34)).alloc (.cells #[.int .i64 2, .int .i64 0] 3)) (some ⟨w6.heap.size, 0, none⟩) 1 [1] := twoslotlaw03_alive.lit (xs := [1]) (blk_alloc (blk_alloc (blk_alloc (blk_alloc (heap_alloc_at (w := w6) _ _ (by first | rfl | simp only [SZ.out])) _) _) _) _) (by simp [encs]) (by decide)
    have hl0_1 : Kd.C (Kd.int .u8) (((((w6.alloc (.cells #[.int .u8 1] 5)).alloc (.cells #[.int .u8 2] 5)).alloc (.cells #[.int .u8 3] 5)).alloc (.cells #[.slice (some ⟨w6.heap.size, 0, none⟩) 1 1, .slice (some ⟨w6.heap.size + 1, 0, none⟩) 1 1, .slice (some ⟨w6.heap.size + 2, 0, none⟩) 1 1] 34)).alloc (.cells #[.int .i64 2, .int .i64 0] 3)) (some ⟨w6.heap.size + 1, 0, none⟩) 1 [2] := twoslotlaw03_alive.lit (xs := [2]) (blk_alloc (blk_alloc (blk_alloc (heap_alloc_at (w := (w6.alloc (.cells #[.int .u8 1] 5))) _ _ (by first | rfl | simp only [SZ.out])) _) _) _) (by simp [encs]) (by decide)
    have hl0_2 : Kd.C (Kd.int .u8) (((((w6.alloc (.cells #[.int .u8 1] 5)).alloc (.cells #[.int .u8 2] 5)).alloc (.cells #[.int .u8 3] 5)).alloc (.cells #[.slice (some ⟨w6.heap.size, 0, none⟩) 1 1, .slice (some ⟨w6.heap.size + 1, 0, none⟩) 1 1, .slice (some ⟨w6.heap.size + 2, 0, none⟩) 1 1] 34)).alloc (.cells #[.int .i64 2, .int .i64 0] 3)) (some ⟨w6.heap.size + 2, 0, none⟩) 1 [3] := twoslotlaw03_alive.lit (xs := [3]) (blk_alloc (blk_alloc (heap_alloc_at (w := ((w6.alloc (.cells #[.int .u8 1] 5)).alloc (.cells #[.int .u8 2] 5))) _ _ (by first | rfl | simp only [SZ.out])) _) _) (by simp [encs]) (by decide)
    have hm0 : Kd.C (Kd.slice 5 (Kd.int .u8)) (((((w6.alloc (.cells #[.int .u8 1] 5)).alloc (.cells #[.int .u8 2] 5)).alloc (.cells #[.int .u8 3] 5)).alloc (.cells #[.slice (some ⟨w6.heap.size, 0, none⟩) 1 1, .slice (some ⟨w6.heap.size + 1, 0, none⟩) 1 1, .slice (some ⟨w6.heap.size + 2, 0, none⟩) 1 1] 34)).alloc (.cells #[.int .i64 2, .int .i64 0] 3)) (some ⟨w6.heap.size + 3, 0, none⟩) 3 [[1], [2], [3]] := twoslotlaw03_alive.lits [(w6.heap.size, [1]), (w6.heap.size + 1, [2]), (w6.heap.size + 2, [3])] (blk_alloc (heap_alloc_at (w := (((w6.alloc (.cells #[.int .u8 1] 5)).alloc (.cells #[.int .u8 2] 5)).alloc (.cells #[.int .u8 3] 5))) _ _ (by first | rfl | simp only [SZ.out])) _) rfl (by simp) (fun p hp => by
      simp only [List.mem_cons, List.not_mem_nil, or_false] at hp
      rcases hp with rfl | rfl | rfl
      · exact hl0_0
      · exact hl0_1
      · exact hl0_2
      )
    have hi1 : Kd.C (Kd.int .i64) (((((w6.alloc (.cells #[.int .u8 1] 5)).alloc (.cells #[.int .u8 2] 5)).alloc (.cells #[.int .u8 3] 5)).alloc (.cells #[.slice (some ⟨w6.heap.size, 0, none⟩) 1 1, .slice (some ⟨w6.heap.size + 1, 0, none⟩) 1 1, .slice (some ⟨w6.heap.size + 2, 0, none⟩) 1 1] 34)).alloc (.cells #[.int .i64 2, .int .i64 0] 3)) (some ⟨w6.heap.size + 4, 0, none⟩) 2 [2, 0] := twoslotlaw03_alive.liti (xs := [2, 0]) (heap_alloc_at (w := ((((w6.alloc (.cells #[.int .u8 1] 5)).alloc (.cells #[.int .u8 2] 5)).alloc (.cells #[.int .u8 3] 5)).alloc (.cells #[.slice (some ⟨w6.heap.size, 0, none⟩) 1 1, .slice (some ⟨w6.heap.size + 1, 0, none⟩) 1 1, .slice (some ⟨w6.heap.size + 2, 0, none⟩) 1 1] 34))) _ _ (by first | rfl | simp only [SZ.out])) (by simp [encs]) (by decide)
    refine (matrix_Pick.calls k (some ⟨w6.heap.size + 3, 0, none⟩) 3 [[1], [2], [3]] (some ⟨w6.heap.size + 4, 0, none⟩) 2 [2, 0] [[3], [1]] 0 _ hm0 (by decide) hi1 (by decide) H7.out).mono ?_
    rintro e w' ⟨v, rfl, hv, hb⟩
    obtain ⟨A, c, rfl, -, hc⟩ := Kd.S_reads hv
    exact ⟨A, c, rfl, hc, hb⟩
  have HX := Lib.hid hX
  clear hX
  go_wp2_with fail
  refine HX.out.mono ?_
  rintro e w7 ⟨A7, c7, rfl, hv, hb⟩
  have hb2 := below_step (below_alloc (below_alloc (below_alloc (below_alloc (below_alloc (Below.refl w6.heap.size w6) _) _) _) _) _) hb
  replace V1 := Lib.hid (Kd.C_below V1.out hb2)
  replace V2 := Lib.hid (Kd.C_below V2.out hb2)
  replace V4 := Lib.hid (Kd.C_below V4.out hb2)
  replace HB := Lib.hid (below_step HB.out hb2)
  have V7 := Lib.hid hv
  clear hv
  clear hb hb2 HX
  obtain ⟨d1_0, B1_0, e1_0, he, hx1_0, -, hr⟩ : ∃ ad A_ c_, A1 = some ad ∧ w7.cell? (ad.add 0) = some (.slice A_ 1 c_) ∧ 1 ≤ c_ ∧ Kd.C (Kd.int .u8) w7 A_ 1 [11] := at_L1 V1.out 0 (by decide) (by decide)
  subst he
  obtain ⟨f1_0_0, he, hy1_0_0⟩ : ∃ ad, B1_0 = some ad ∧ w7.cell? (ad.add 0) = some (.int .u8 11) := Kd.at_int hr 0 (by decide) (by decide)
  subst he
  clear hr
  obtain ⟨d1_1, B1_1, e1_1, he, hx1_1, -, hr⟩ : ∃ ad A_ c_, some d1_0 = some ad ∧ w7.cell? (ad.add 1) = some (.slice A_ 1 c_) ∧ 1 ≤ c_ ∧ Kd.C (Kd.int .u8) w7 A_ 1 [4] := at_L1 V1.out 1 (by decide) (by decide)
  cases he
  obtain ⟨f1_1_0, he, hy1_1_0⟩ : ∃ ad, B1_1 = some ad ∧ w7.cell? (ad.add 0) = some (.int .u8 4) := Kd.at_int hr 0 (by decide) (by decide)
  subst he
  clear hr
  obtain ⟨d2_0, B2_0, e2_0, he, hx2_0, -, hr⟩ : ∃ ad A_ c_, A2 = some ad ∧ w7.cell? (ad.add 0) = some (.slice A_ 2 c_) ∧ 2 ≤ c_ ∧ Kd.C (Kd.int .u8) w7 A_ 2 [142, 244] := at_L1 V2.out 0 (by decide) (by decide)
  subst he
  obtain ⟨f2_0_0, he, hy2_0_0⟩ : ∃ ad, B2_0 = some ad ∧ w7.cell? (ad.add 0) = some (.int .u8 142) := Kd.at_int hr 0 (by decide) (by decide)
  subst he
  obtain ⟨f2_0_1, he, hy2_0_1⟩ : ∃ ad, some f2_0_0 = some ad ∧ w7.cell? (ad.add 1) = some (.int .u8 244) := Kd.at_int hr 1 (by decide) (by decide)
  cases he
  clear hr
  obtain ⟨d2_1, B2_1, e2_1, he, hx2_1, -, hr⟩ : ∃ ad A_ c_, some d2_0 = some ad ∧ w7.cell? (ad.add 1) = some (.slice A_ 2 c_) ∧ 2 ≤ c_ ∧ Kd.C (Kd.int .u8) w7 A_ 2 [244, 142] := at_L1 V2.out 1 (by decide) (by decide)
  cases he
  obtain ⟨f2_1_0, he, hy2_1_0⟩ : ∃ ad, B2_1 = some ad ∧ w7.cell? (ad.add 0) = some (.int .u8 244) := Kd.at_int hr 0 (by decide) (by decide)
  subst he
  obtain ⟨f2_1_1, he, hy2_1_1⟩ : ∃ ad, some f2_1_0 = some ad ∧ w7.cell? (ad.add 1) = some (.int .u8 142) := Kd.at_int hr 1 (by decide) (by decide)
  cases he
  clear hr
  obtain ⟨d4_0, B4_0, e4_0, he, hx4_0, -, hr⟩ : ∃ ad A_ c_, A4 = some ad ∧ w7.cell? (ad.add 0) = some (.slice A_ 1 c_) ∧ 1 ≤ c_ ∧ Kd.C (Kd.int .u8) w7 A_ 1 [142] := at_L1 V4.out 0 (by decide) (by decide)
  subst he
  obtain ⟨f4_0_0, he, hy4_0_0⟩ : ∃ ad, B4_0 = some ad ∧ w7.cell? (ad.add 0) = some (.int .u8 142) := Kd.at_int hr 0 (by decide) (by decide)
  subst he
  clear hr
  obtain ⟨d7_0, B7_0, e7_0, he, hx7_0, -, hr⟩ : ∃ ad A_ c_, A7 = some ad ∧ w7.cell? (ad.add 0) = some (.slice A_ 1 c_) ∧ 1 ≤ c_ ∧ Kd.C (Kd.int .u8) w7 A_ 1 [3] := at_L1 V7.out 0 (by decide) (by decide)
  subst he
  obtain ⟨f7_0_0, he, hy7_0_0⟩ : ∃ ad, B7_0 = some ad ∧ w7.cell? (ad.add 0) = some (.int .u8 3) := Kd.at_int hr 0 (by decide) (by decide)
  subst he
  clear hr
  obtain ⟨d7_1, B7_1, e7_1, he, hx7_1, -, hr⟩ : ∃ ad A_ c_, some d7_0 = some ad ∧ w7.cell? (ad.add 1) = some (.slice A_ 1 c_) ∧ 1 ≤ c_ ∧ Kd.C (Kd.int .u8) w7 A_ 1 [1] := at_L1 V7.out 1 (by decide) (by decide)
  cases he
  obtain ⟨f7_1_0, he, hy7_1_0⟩ : ∃ ad, B7_1 = some ad ∧ w7.cell? (ad.add 0) = some (.int .u8 1) := Kd.at_int hr 0 (by decide) (by decide)
  subst he
  clear hr
  have a0 : ∀ ad : Addr, ad.add 0 = ad := fun ad => by cases ad; simp [Addr.add]
  simp only [a0] at *
  clear a0
  simp [Addr.add] at hx1_1 hx2_1 hx7_1 hy2_0_1 hy2_1_1
  go_wp2_with fail
  refine (matrix_Check.calls k none 0 [] 30 _ (Kd.C_nil _ _) (Nat.le_refl _) H8.out).mono ?_
  rintro e' w8 ⟨rfl, n, rfl⟩
  go_wp2_with fail
  go_ret
  exact ⟨rfl, pw_below_drewN HB.out n⟩

end Go.Proofs.Ytmeckhfoajfapaa.PT
