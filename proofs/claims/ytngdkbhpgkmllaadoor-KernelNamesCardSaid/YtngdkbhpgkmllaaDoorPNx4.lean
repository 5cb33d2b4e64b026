-- written by the session's own program (wip/prt.py) over the kit's print: not print.sh's own text
import Derived.Test.YtngdkbhpgkmllaaDoorPNx0
import Derived.Test.YtngdkbhpgkmllaaDoorPNx1
import Derived.Test.YtngdkbhpgkmllaaDoorPNx2
import Derived.Test.YtngdkbhpgkmllaaDoorPNx3
namespace Go.Proofs.YtngdkbhpgkmllaaDoor.PN
open Go.RowKit Go.Proofs.YtngdkbhpgkmllaaDoorW.PrintWords Go.Proofs.YtngdkbhpgkmllaaDoorW.PrintLast Go.Proofs.YtngdkbhpgkmllaaDoorW.PrintMore
attribute [local go_sem] max2_int min2_int max_two min_two max_three min_three max_four min_four   -- for this text's walks alone
set_option linter.unusedVariables false
set_option linter.unusedSimpArgs false

/-! ### kernel_Pad: function 12 -/
theorem kernel_Pad.info : (Tryd.prog.info? 5).map (·.size) = some 1 := by kernel_rfl
theorem kernel_Pad.info3 : (Tryd.prog.info? 5).map (fun i => (i.zero, i.size, i.bytes)) = some (some (.int .u8 0), 1, 1) := by kernel_rfl
def kernel_Pad.f (l0 : List Int) (a1 : Int) : Option (List Int × Int) := if (l0.length : Int) > 65536 then some ([], 20) else if a1 < l0.length then some ([], 20) else if a1 > 65536 then some ([], 20) else some (l0 ++ List.replicate (a1.toNat - l0.length) 0, 0)
set_option maxHeartbeats 1000000 in
theorem kernel_Pad.calls (A0 : Option Addr) (c0 : Nat) (l0 : List Int) (a1 : Int) (r1 : List Int) (r2 : Int) (w : World) (hr0 : Kd.C (Kd.int .u8) w A0 l0.length l0) (hc0 : l0.length ≤ c0) (h : kernel_Pad.f l0 a1 = some (r1, r2)) :
    Calls Tryd.prog 12 #[.slice A0 l0.length c0, .int .i64 a1] w fun e w' => ∃ v0_ : Value, e = .returned (.tuple #[v0_, .int .i64 r2]) ∧ Kd.R (Kd.int .u8) 5 w' w.heap.size (fun _ => True) v0_ r1 ∧ Below w.heap.size w w' := by
  unfold kernel_Pad.f at h
  by_cases h1 : (l0.length : Int) > 65536
  · rw [if_pos h1] at h
    injection h with h
    injection h with ha hb
    subst ha hb
    go_enter Tryd.func12, Tryd.ntmps12
    go_wp2_with fail
    go_ret2
    exact ⟨_, rfl, Kd.R_nil _ _ _ _ _, Below.refl _ _⟩
  rw [if_neg h1] at h
  have d1 : decide ((l0.length : Int) > 65536) = false := decide_eq_false h1
  by_cases h2 : a1 < (l0.length : Int)
  · rw [if_pos h2] at h
    injection h with h
    injection h with ha hb
    subst ha hb
    go_enter Tryd.func12, Tryd.ntmps12
    go_wp2_with fail
    go_ret2
    exact ⟨_, rfl, Kd.R_nil _ _ _ _ _, Below.refl _ _⟩
  rw [if_neg h2] at h
  have d2 : decide (a1 < (l0.length : Int)) = false := decide_eq_false h2
  by_cases h3 : a1 > 65536
  · rw [if_pos h3] at h
    injection h with h
    injection h with ha hb
    subst ha hb
    go_enter Tryd.func12, Tryd.ntmps12
    go_wp2_with fail
    go_ret2
    exact ⟨_, rfl, Kd.R_nil _ _ _ _ _, Below.refl _ _⟩
  rw [if_neg h3] at h
  injection h with h
  injection h with ha hb
  subst hb
  have HA := Lib.hid ha
  clear ha
  obtain ⟨n, rfl⟩ := Int.eq_ofNat_of_zero_le (show 0 ≤ a1 by omega)
  have hmk := print_make 23 5 .u8 1 Tryd.underlying23 kernel_Pad.info3 (by omega) n (by omega) w
  have hb0 : Below w.heap.size w (w.alloc (.cells (madeCells #[.int .u8 0] n) 5)) := (Below.refl _ _).alloc (Nat.le_refl _) _
  have hg0 : (w.alloc (.cells (madeCells #[.int .u8 0] n) 5)).heap[w.heap.size]? = some (.cells (List.replicate n (Value.int .u8 0)).toArray 5 (0, 0)) := by
    have e : (madeCells #[.int .u8 0] n) = (List.replicate n (Value.int .u8 0)).toArray := by
      rw [← Array.toArray_toList (xs := madeCells #[.int .u8 0] n), toList_madeCells_one]
    rw [← e]; exact blk_new w _
  have HB0 := Lib.hid hb0
  have HG0 := Lib.hid hg0
  have HR := Lib.hid (Kd.C_below hr0 hb0)
  have HE := Lib.hid (show (nums .u8 l0).length = Nat.min l0.length n by rw [nums, List.length_map]; exact (Nat.min_eq_left (by omega)).symm)
  have d3 : decide ((n : Int) > 65536) = false := decide_eq_false h3
  clear hb0 hg0 hr0 h1 h2 h3
  have hcp : 0 < (nums .u8 l0).length → (some ⟨w.heap.size, 0, none⟩ : Option Addr) = some ⟨w.heap.size, 0, none⟩ ∧ ∃ ad, A0 = some ad ∧ ∀ j v, (nums .u8 l0)[j]? = some v → (w.alloc (.cells (madeCells #[.int .u8 0] n) 5)).cell? (ad.add j) = some v := by
    intro hp
    have hlen : (nums .u8 l0).length = l0.length := by simp [nums]
    obtain ⟨ad, hA, _⟩ := Kd.at_int HR.out 0 (by omega) (by omega)
    refine ⟨rfl, ad, hA, fun j v hj => ?_⟩
    have hjl : j < l0.length := by
      have := (List.getElem?_eq_some_iff.1 hj).1
      omega
    obtain ⟨ad', hA', hx⟩ := Kd.at_int HR.out (j : Int) (by omega) (by omega)
    rw [hA] at hA'
    injection hA' with hA'
    subst hA'
    rw [Int.toNat_natCast] at hx
    rw [hx]
    simp only [nums, List.getElem?_map, List.getElem?_eq_getElem hjl, Option.map_some] at hj
    injection hj with hj
    rw [← hj]
    simp [rd, hjl]
  have HCP := Lib.hid hcp
  have HLEN := Lib.hid (show l0.length ≤ n by have := d2; simp at this; omega)
  have HN := Lib.hid (show n ≤ 65536 by have := d3; simp at this; omega)
  clear hcp
  go_enter Tryd.func12, Tryd.ntmps12
  go_wp2_with ((with_reducible refine gate_builtin (b := .copy) (xs := #[.tmp 22, .tmp 23]) rfl ?_); refine wpList_copy_splice rfl (.tmp 22) (.tmp 23) 23 23 rfl 5 Tryd.underlying23 kernel_Pad.info (some ⟨w.heap.size, 0, none⟩) A0 n n l0.length c0 rfl rfl w.heap.size 0 (List.replicate n (Value.int .u8 0)) 5 HG0.out (nums .u8 l0) HE.out HCP.out ?cf ?co w.heap.size w HB0.out (Nat.le_refl _) ?_; (case cf => rw [HE.out, List.length_replicate, Nat.zero_add]; exact Nat.min_le_right _ _); (case co => intro v hv; simp only [nums, List.mem_map] at hv; obtain ⟨x, _, rfl⟩ := hv; rfl); intro w1 hg1 hb1; have HB1 := Lib.hid hb1; clear hb1)
  go_wp2_with fail
  go_ret2
  have e : splice (List.replicate n (Value.int .u8 0)) 0 (nums .u8 l0) = encs (Value.int .u8) (l0 ++ List.replicate ((n : Int).toNat - l0.length) 0) := by
    simp [splice, encs, nums]
  have hg := hg1.out
  rw [e] at hg
  have hown := own_of_block (base := w.heap.size) hg (Nat.le_refl _) (by have := HLEN.out; have := HN.out; simp [encs, maxLen]; omega)
  have hlen : (encs (Value.int .u8) (l0 ++ List.replicate ((n : Int).toNat - l0.length) 0)).length = n := by have := HLEN.out; simp [encs]; omega
  have hlen2 : (l0 ++ List.replicate ((n : Int).toNat - l0.length) 0).length = n := by have := HLEN.out; simp; omega
  rw [hlen] at hown
  refine ⟨_, rfl, ?_, HB1.out⟩
  rw [← HA.out]
  exact Kd.R_of_own (by rw [hlen2]; exact hown) (fun _ _ => trivial)

-- NOT PRINTED: function 37 (bytes_makeASCIISet)

-- NOT PRINTED: function 40 (bytes_asciiSet_contains)

-- NOT PRINTED: function 38 (bytes_trimLeftASCII)

-- NOT PRINTED: function 43 (utf8_decodeRuneSlow)

-- NOT PRINTED: function 41 (utf8_DecodeRune)

-- NOT PRINTED: function 42 (bytes_containsRune)

-- NOT PRINTED: function 39 (bytes_trimLeftUnicode)

-- NOT PRINTED: function 33 (bytes_TrimLeft)

/-! ### kernel_Zero: function 16 -/
def kernel_Zero.f (l0 : List Int) : Option Bool := some (decide ((l0.dropWhile (· == 0)).length = 0))
set_option maxRecDepth 100000 in
theorem kernel_Zero.trim0 (A0 : Option Addr) (c0 : Nat) (w : World) : Calls Tryd.prog 33 #[.slice A0 0 c0, .string { data := #[0] }] w fun e w' => e = .returned (.slice none 0 0) ∧ w' = w := by
  go_enter Tryd.func33, Tryd.ntmps33
  go_wp2_with fail
  go_ret
  exact ⟨rfl, rfl⟩
set_option maxHeartbeats 1000000 in
set_option maxRecDepth 100000 in
theorem kernel_Zero.trim (A0 : Option Addr) (c0 : Nat) (l0 : List Int) (w : World) (hr0 : Kd.C (Kd.int .u8) w A0 l0.length l0) (hc0 : l0.length ≤ c0) (hz : ¬ l0.length = 0) :
    Calls Tryd.prog 33 #[.slice A0 l0.length c0, .string { data := #[0] }] w fun e w' => (∃ A c, e = .returned (.slice A (l0.dropWhile (· == 0)).length c)) ∧ w' = w := by
  have HR := Lib.hid hr0
  have HC := Lib.hid hc0
  have d1 : ((l0.length : Int) == 0) = false := beq_eq_false_iff_ne.mpr (by omega)
  have e0 : ((({ data := #[0] } : ByteArray)[0]'(by decide)).toNat : Int) = 0 := rfl
  clear hr0 hc0
  go_enter Tryd.func33, Tryd.ntmps33
  go_wp2_with ((with_reducible refine (bytes_trimLeftByte.same A0 c0 l0 0 _ HR.out HC.out).mono ?_); rintro e w' ⟨⟨A, c, rfl⟩, rfl⟩)
  go_ret
  exact ⟨⟨A, c, rfl⟩, rfl⟩
set_option maxHeartbeats 1000000 in
set_option maxRecDepth 100000 in
theorem kernel_Zero.calls (A0 : Option Addr) (c0 : Nat) (l0 : List Int) (r : Bool) (w : World) (hr0 : Kd.C (Kd.int .u8) w A0 l0.length l0) (hc0 : l0.length ≤ c0) (h : kernel_Zero.f l0 = some r) :
    Calls Tryd.prog 16 #[.slice A0 l0.length c0] w fun e w' => e = .returned (.bool r) ∧ Drawn0 w w' := by
  injection h with h
  by_cases hz : l0.length = 0
  · obtain rfl := List.length_eq_zero_iff.1 hz
    subst h
    clear hr0 hz
    go_enter Tryd.func16, Tryd.ntmps16
    go_wp2_with fail
    refine (kernel_Zero.trim0 A0 c0 w).mono ?_
    rintro e w' ⟨rfl, rfl⟩
    go_wp2_with fail
    go_ret
    exact ⟨rfl, ⟨0, rfl⟩⟩
  · have H1 := Lib.hid (kernel_Zero.trim A0 c0 l0 w hr0 hc0 hz)
    have H2 := Lib.hid h
    clear h hr0 hz
    go_enter Tryd.func16, Tryd.ntmps16
    go_wp2_with ((with_reducible refine H1.out.mono ?_); rintro e w' ⟨⟨A, c, rfl⟩, rfl⟩)
    go_ret
    refine ⟨?_, ⟨0, rfl⟩⟩
    rw [← H2.out]
    show Ending.returned (.bool (((l0.dropWhile (· == 0)).length : Int) == 0)) = _
    congr 2
    rw [Bool.eq_iff_iff, beq_iff_eq, decide_eq_true_iff]
    omega

/-! ### twoslotlaw02_alive: function 8 -/
def twoslotlaw02_alive.ok (k : Nat) : Prop := kernel_Xor.f k [1, 2, 3] [3, 2, 1] = some ([2, 0, 2], 0) ∧ kernel_Plus.f k [1, 0] 2 [128, 1] = some ([28, 2], 0) ∧ kernel_Scale.f k 2 [128, 1] = some ([29, 2], 0) ∧ kernel_Dot.f k [1, 2] [[1, 1], [128, 0]] = some ([28, 1], 0) ∧ kernel_Pad.f [1, 2] 4 = some ([1, 2, 0, 0], 0) ∧ kernel_Xor.f k [1] [1, 2] = some ([], 20) ∧ kernel_Zero.f [] = some true ∧ kernel_Zero.f [2, 0, 2] = some false
instance twoslotlaw02_alive.okDec (k : Nat) : Decidable (twoslotlaw02_alive.ok k) := by unfold twoslotlaw02_alive.ok; infer_instance
def twoslotlaw02_alive.f (k : Nat) : Option Bool := if twoslotlaw02_alive.ok k then some true else none
theorem twoslotlaw02_alive.mono : ∀ k, LeO (twoslotlaw02_alive.f k) (twoslotlaw02_alive.f (k + 1)) := fun k r h => by
  unfold twoslotlaw02_alive.f at h ⊢
  by_cases e : twoslotlaw02_alive.ok k
  · rw [if_pos e] at h
    rw [if_pos ?_]; · exact h
    obtain ⟨h1, h2, h3, h4, h5, h6, h7, h8⟩ := e
    exact ⟨kernel_Xor.mono _ _ _ _ h1, kernel_Plus.mono _ _ _ _ _ h2, kernel_Scale.mono _ _ _ _ h3, kernel_Dot.mono _ _ _ _ h4, h5, kernel_Xor.mono _ _ _ _ h6, h7, h8⟩
  · rw [if_neg e] at h; cases h
theorem twoslotlaw02_alive.lit {W : World} {g : Nat} {xs : List Int} {e : TypeId} {cs : Array Value} (h : W.heap[g]? = some (.cells cs e (0, 0))) (hcs : cs = (encs (Value.int .u8) xs).toArray) (hl : xs.length ≤ 1000) : Kd.C (Kd.int .u8) W (some ⟨g, 0, none⟩) xs.length xs := by
  subst hcs
  have hown := own_of_block (base := 0) h (Nat.zero_le _) (by simp [encs, maxLen]; omega)
  have hlen : (encs (Value.int .u8) xs).length = xs.length := by simp [encs]
  rw [hlen] at hown
  exact (Kd.R_reads' (Kd.R_of_own (h1 := fun _ => rfl) (ok := fun _ => True) hown (fun _ _ => trivial))).2.2
theorem twoslotlaw02_alive.lits {W : World} {g : Nat} {A B : Option Addr} {xs ys : List Int} {c d n m : Nat} (h : W.heap[g]? = some (.cells #[.slice A n c, .slice B m d] 23 (0, 0))) (hn : n = xs.length) (hm : m = ys.length) (hc : xs.length ≤ c) (hd : ys.length ≤ d)
    (h1 : Kd.C (Kd.int .u8) W A xs.length xs) (h2 : Kd.C (Kd.int .u8) W B ys.length ys) : Kd.C (Kd.slice 5 (Kd.int .u8)) W (some ⟨g, 0, none⟩) 2 [xs, ys] := by
  subst hn hm
  refine ⟨rfl, by decide, fun _ => ⟨⟨g, 0, none⟩, rfl, fun j p hj => ?_⟩⟩
  match j, hj with
  | 0, hj =>
    injection hj with hj; subst hj
    refine ⟨[.slice A xs.length c], rfl, ⟨A, c, rfl, hc, h1⟩, fun i u hu => ?_⟩
    cases i with
    | zero => injection hu with hu; subst hu; exact (blk_cell h 0).trans rfl
    | succ i => cases hu
  | 1, hj =>
    injection hj with hj; subst hj
    refine ⟨[.slice B ys.length d], rfl, ⟨B, d, rfl, hd, h2⟩, fun i u hu => ?_⟩
    cases i with
    | zero => injection hu with hu; subst hu; exact (blk_cell h 1).trans rfl
    | succ i => cases hu
  | j + 2, hj => cases hj
set_option maxHeartbeats 8000000 in
set_option maxRecDepth 100000 in
theorem twoslotlaw02_alive.calls (k : Nat) (r : Bool) (w : World) (h : twoslotlaw02_alive.f k = some r) : Calls Tryd.prog 8 #[] w fun e w' => e = .returned (.bool r) ∧ Below w.heap.size w w' := by
  unfold twoslotlaw02_alive.f at h
  by_cases e : twoslotlaw02_alive.ok k
  case neg => rw [if_neg e] at h; cases h
  rw [if_pos e] at h
  injection h with h
  subst h
  obtain ⟨h1, h2, h3, h4, h5, h6, h7, h8⟩ := e
  have H1 := Lib.hid h1
  have H2 := Lib.hid h2
  have H3 := Lib.hid h3
  have H4 := Lib.hid h4
  have H5 := Lib.hid h5
  have H6 := Lib.hid h6
  have H7 := Lib.hid h7
  have H8 := Lib.hid h8
  clear h1 h2 h3 h4 h5 h6 h7 h8
  go_enter Tryd.func8, Tryd.ntmps8
  have HB := Lib.hid (Below.refl w.heap.size w)
  have hL1 : Kd.C (Kd.int .u8) ((w.alloc (.cells #[.int .u8 1, .int .u8 2, .int .u8 3] 5)).alloc (.cells #[.int .u8 3, .int .u8 2, .int .u8 1] 5)) (some ⟨w.heap.size, 0, none⟩) 3 [1, 2, 3] := twoslotlaw02_alive.lit (xs := [1, 2, 3]) (blk_alloc (heap_alloc_at (w := w) _ _ (by first | rfl | simp only [sz])) _) (by simp [encs]) (by decide)
  have hL2 : Kd.C (Kd.int .u8) ((w.alloc (.cells #[.int .u8 1, .int .u8 2, .int .u8 3] 5)).alloc (.cells #[.int .u8 3, .int .u8 2, .int .u8 1] 5)) (some ⟨w.heap.size + 1, 0, none⟩) 3 [3, 2, 1] := twoslotlaw02_alive.lit (xs := [3, 2, 1]) (heap_alloc_at (w := (w.alloc (.cells #[.int .u8 1, .int .u8 2, .int .u8 3] 5))) _ _ (by first | rfl | simp only [sz])) (by simp [encs]) (by decide)
  have hX : Calls Tryd.prog 10 #[.slice (some ⟨w.heap.size, 0, none⟩) 3 3, .slice (some ⟨w.heap.size + 1, 0, none⟩) 3 3] ((w.alloc (.cells #[.int .u8 1, .int .u8 2, .int .u8 3] 5)).alloc (.cells #[.int .u8 3, .int .u8 2, .int .u8 1] 5)) (fun e w' => ∃ v0_ : Value, e = .returned (.tuple #[v0_, .int .i64 0]) ∧ Kd.R (Kd.int .u8) 5 w' 0 (fun _ => True) v0_ [2, 0, 2] ∧ Below (World.heap ((w.alloc (.cells #[.int .u8 1, .int .u8 2, .int .u8 3] 5)).alloc (.cells #[.int .u8 3, .int .u8 2, .int .u8 1] 5))).size ((w.alloc (.cells #[.int .u8 1, .int .u8 2, .int .u8 3] 5)).alloc (.cells #[.int .u8 3, .int .u8 2, .int .u8 1] 5)) w') := by
    first | (refine (kernel_Xor.calls k (some ⟨w.heap.size, 0, none⟩) 3 [1, 2, 3] (some ⟨w.heap.size + 1, 0, none⟩) 3 [3, 2, 1] [2, 0, 2] 0 ((w.alloc (.cells #[.int .u8 1, .int .u8 2, .int .u8 3] 5)).alloc (.cells #[.int .u8 3, .int .u8 2, .int .u8 1] 5)) hL1 (by decide) hL2 (by decide) H1.out).mono ?_; rintro e w' ⟨v, rfl, hv, hb⟩; exact ⟨v, rfl, Kd.R_mono (Kd.R_lower hv (Nat.zero_le _)) (fun _ _ => trivial), hb⟩)
          | (refine (kernel_Xor.calls k (fun k_ => k_ < (World.heap _).size) (some ⟨w.heap.size, 0, none⟩) 3 [1, 2, 3] (fun k_ => k_ < (World.heap _).size) (some ⟨w.heap.size + 1, 0, none⟩) 3 [3, 2, 1] [2, 0, 2] 0 ((w.alloc (.cells #[.int .u8 1, .int .u8 2, .int .u8 3] 5)).alloc (.cells #[.int .u8 3, .int .u8 2, .int .u8 1] 5)) ⟨_, _, rfl, by decide, Kd.C_F (Kd.heap_int _) hL1⟩ ⟨_, _, rfl, by decide, Kd.C_F (Kd.heap_int _) hL2⟩ H1.out).mono ?_; rintro e w' ⟨v, rfl, hv, hb⟩; exact ⟨v, rfl, Kd.R_mono (Kd.R_lower hv (Nat.zero_le _)) (fun _ _ => trivial), hb⟩)
  have HX := Lib.hid hX
  clear hX hL1 hL2
  go_wp2_with fail
  refine HX.out.mono ?_
  rintro e w1 ⟨v1, rfl, hv, hb⟩
  have hb2 := (((Below.refl w.heap.size w).alloc (by first | exact Nat.le_refl _ | (simp only [sz]; omega) | omega) _).alloc (by first | exact Nat.le_refl _ | (simp only [sz]; omega) | omega) _).trans (hb.mono (by first | exact Nat.le_refl _ | (simp only [sz]; omega) | omega))
  replace HB := Lib.hid (below_step HB.out hb2)
  obtain ⟨g1, c1, rfl, -⟩ := Kd.R_form hv (by decide)
  have V1 := Lib.hid hv
  clear hv hb hb2 HX
  have hL1 : Kd.C (Kd.int .u8) ((w1.alloc (.cells #[.int .u8 1, .int .u8 0] 5)).alloc (.cells #[.int .u8 128, .int .u8 1] 5)) (some ⟨w1.heap.size, 0, none⟩) 2 [1, 0] := twoslotlaw02_alive.lit (xs := [1, 0]) (blk_alloc (heap_alloc_at (w := w1) _ _ (by first | rfl | simp only [sz])) _) (by simp [encs]) (by decide)
  have hL2 : Kd.C (Kd.int .u8) ((w1.alloc (.cells #[.int .u8 1, .int .u8 0] 5)).alloc (.cells #[.int .u8 128, .int .u8 1] 5)) (some ⟨w1.heap.size + 1, 0, none⟩) 2 [128, 1] := twoslotlaw02_alive.lit (xs := [128, 1]) (heap_alloc_at (w := (w1.alloc (.cells #[.int .u8 1, .int .u8 0] 5))) _ _ (by first | rfl | simp only [sz])) (by simp [encs]) (by decide)
  have hX : Calls Tryd.prog 11 #[.slice (some ⟨w1.heap.size, 0, none⟩) 2 2, .int .u8 2, .slice (some ⟨w1.heap.size + 1, 0, none⟩) 2 2] ((w1.alloc (.cells #[.int .u8 1, .int .u8 0] 5)).alloc (.cells #[.int .u8 128, .int .u8 1] 5)) (fun e w' => ∃ v0_ : Value, e = .returned (.tuple #[v0_, .int .i64 0]) ∧ Kd.R (Kd.int .u8) 5 w' 0 (fun _ => True) v0_ [28, 2] ∧ Below (World.heap ((w1.alloc (.cells #[.int .u8 1, .int .u8 0] 5)).alloc (.cells #[.int .u8 128, .int .u8 1] 5))).size ((w1.alloc (.cells #[.int .u8 1, .int .u8 0] 5)).alloc (.cells #[.int .u8 128, .int .u8 1] 5)) w') := by
    first | (refine (kernel_Plus.calls k (some ⟨w1.heap.size, 0, none⟩) 2 [1, 0] 2 (some ⟨w1.heap.size + 1, 0, none⟩) 2 [128, 1] [28, 2] 0 ((w1.alloc (.cells #[.int .u8 1, .int .u8 0] 5)).alloc (.cells #[.int .u8 128, .int .u8 1] 5)) hL1 (by decide) hL2 (by decide) H2.out).mono ?_; rintro e w' ⟨v, rfl, hv, hb⟩; exact ⟨v, rfl, Kd.R_mono (Kd.R_lower hv (Nat.zero_le _)) (fun _ _ => trivial), hb⟩)
          | (refine (kernel_Plus.calls k (fun k_ => k_ < (World.heap _).size) (some ⟨w1.heap.size, 0, none⟩) 2 [1, 0] 2 (fun k_ => k_ < (World.heap _).size) (some ⟨w1.heap.size + 1, 0, none⟩) 2 [128, 1] [28, 2] 0 ((w1.alloc (.cells #[.int .u8 1, .int .u8 0] 5)).alloc (.cells #[.int .u8 128, .int .u8 1] 5)) ⟨_, _, rfl, by decide, Kd.C_F (Kd.heap_int _) hL1⟩ ⟨_, _, rfl, by decide, Kd.C_F (Kd.heap_int _) hL2⟩ H2.out).mono ?_; rintro e w' ⟨v, rfl, hv, hb⟩; exact ⟨v, rfl, Kd.R_mono (Kd.R_lower hv (Nat.zero_le _)) (fun _ _ => trivial), hb⟩)
  have HX := Lib.hid hX
  clear hX hL1 hL2
  go_wp2_with fail
  refine HX.out.mono ?_
  rintro e w2 ⟨v2, rfl, hv, hb⟩
  have hb2 := (((Below.refl w1.heap.size w1).alloc (by first | exact Nat.le_refl _ | (simp only [sz]; omega) | omega) _).alloc (by first | exact Nat.le_refl _ | (simp only [sz]; omega) | omega) _).trans (hb.mono (by first | exact Nat.le_refl _ | (simp only [sz]; omega) | omega))
  replace V1 := Lib.hid (Kd.R_below V1.out hb2)
  replace HB := Lib.hid (below_step HB.out hb2)
  obtain ⟨g2, c2, rfl, -⟩ := Kd.R_form hv (by decide)
  have V2 := Lib.hid hv
  clear hv hb hb2 HX
  have hL1 : Kd.C (Kd.int .u8) (w2.alloc (.cells #[.int .u8 128, .int .u8 1] 5)) (some ⟨w2.heap.size, 0, none⟩) 2 [128, 1] := twoslotlaw02_alive.lit (xs := [128, 1]) (heap_alloc_at (w := w2) _ _ (by first | rfl | simp only [sz])) (by simp [encs]) (by decide)
  have hX : Calls Tryd.prog 9 #[.int .u8 2, .slice (some ⟨w2.heap.size, 0, none⟩) 2 2] (w2.alloc (.cells #[.int .u8 128, .int .u8 1] 5)) (fun e w' => ∃ v0_ : Value, e = .returned (.tuple #[v0_, .int .i64 0]) ∧ Kd.R (Kd.int .u8) 5 w' 0 (fun _ => True) v0_ [29, 2] ∧ Below (World.heap (w2.alloc (.cells #[.int .u8 128, .int .u8 1] 5))).size (w2.alloc (.cells #[.int .u8 128, .int .u8 1] 5)) w') := by
    first | (refine (kernel_Scale.calls k 2 (some ⟨w2.heap.size, 0, none⟩) 2 [128, 1] [29, 2] 0 (w2.alloc (.cells #[.int .u8 128, .int .u8 1] 5)) hL1 (by decide) H3.out).mono ?_; rintro e w' ⟨v, rfl, hv, hb⟩; exact ⟨v, rfl, Kd.R_mono (Kd.R_lower hv (Nat.zero_le _)) (fun _ _ => trivial), hb⟩)
          | (refine (kernel_Scale.calls k 2 (fun k_ => k_ < (World.heap _).size) (some ⟨w2.heap.size, 0, none⟩) 2 [128, 1] [29, 2] 0 (w2.alloc (.cells #[.int .u8 128, .int .u8 1] 5)) ⟨_, _, rfl, by decide, Kd.C_F (Kd.heap_int _) hL1⟩ H3.out).mono ?_; rintro e w' ⟨v, rfl, hv, hb⟩; exact ⟨v, rfl, Kd.R_mono (Kd.R_lower hv (Nat.zero_le _)) (fun _ _ => trivial), hb⟩)
  have HX := Lib.hid hX
  clear hX hL1
  go_wp2_with fail
  refine HX.out.mono ?_
  rintro e w3 ⟨v3, rfl, hv, hb⟩
  have hb2 := ((Below.refl w2.heap.size w2).alloc (by first | exact Nat.le_refl _ | (simp only [sz]; omega) | omega) _).trans (hb.mono (by first | exact Nat.le_refl _ | (simp only [sz]; omega) | omega))
  replace V1 := Lib.hid (Kd.R_below V1.out hb2)
  replace V2 := Lib.hid (Kd.R_below V2.out hb2)
  replace HB := Lib.hid (below_step HB.out hb2)
  obtain ⟨g3, c3, rfl, -⟩ := Kd.R_form hv (by decide)
  have V3 := Lib.hid hv
  clear hv hb hb2 HX
  have hL1 : Kd.C (Kd.int .u8) ((((w3.alloc (.cells #[.int .u8 1, .int .u8 2] 5)).alloc (.cells #[.int .u8 1, .int .u8 1] 5)).alloc (.cells #[.int .u8 128, .int .u8 0] 5)).alloc (.cells #[.slice (some ⟨w3.heap.size + 1, 0, none⟩) 2 2, .slice (some ⟨w3.heap.size + 2, 0, none⟩) 2 2] 23)) (some ⟨w3.heap.size, 0, none⟩) 2 [1, 2] := twoslotlaw02_alive.lit (xs := [1, 2]) (blk_alloc (blk_alloc (blk_alloc (heap_alloc_at (w := w3) _ _ (by first | rfl | simp only [sz])) _) _) _) (by simp [encs]) (by decide)
  have hL2 : Kd.C (Kd.int .u8) ((((w3.alloc (.cells #[.int .u8 1, .int .u8 2] 5)).alloc (.cells #[.int .u8 1, .int .u8 1] 5)).alloc (.cells #[.int .u8 128, .int .u8 0] 5)).alloc (.cells #[.slice (some ⟨w3.heap.size + 1, 0, none⟩) 2 2, .slice (some ⟨w3.heap.size + 2, 0, none⟩) 2 2] 23)) (some ⟨w3.heap.size + 1, 0, none⟩) 2 [1, 1] := twoslotlaw02_alive.lit (xs := [1, 1]) (blk_alloc (blk_alloc (heap_alloc_at (w := (w3.alloc (.cells #[.int .u8 1, .int .u8 2] 5))) _ _ (by first | rfl | simp only [sz])) _) _) (by simp [encs]) (by decide)
  have hL3 : Kd.C (Kd.int .u8) ((((w3.alloc (.cells #[.int .u8 1, .int .u8 2] 5)).alloc (.cells #[.int .u8 1, .int .u8 1] 5)).alloc (.cells #[.int .u8 128, .int .u8 0] 5)).alloc (.cells #[.slice (some ⟨w3.heap.size + 1, 0, none⟩) 2 2, .slice (some ⟨w3.heap.size + 2, 0, none⟩) 2 2] 23)) (some ⟨w3.heap.size + 2, 0, none⟩) 2 [128, 0] := twoslotlaw02_alive.lit (xs := [128, 0]) (blk_alloc (heap_alloc_at (w := ((w3.alloc (.cells #[.int .u8 1, .int .u8 2] 5)).alloc (.cells #[.int .u8 1, .int .u8 1] 5))) _ _ (by first | rfl | simp only [sz])) _) (by simp [encs]) (by decide)
  have hL4 : Kd.C (Kd.slice 5 (Kd.int .u8)) ((((w3.alloc (.cells #[.int .u8 1, .int .u8 2] 5)).alloc (.cells #[.int .u8 1, .int .u8 1] 5)).alloc (.cells #[.int .u8 128, .int .u8 0] 5)).alloc (.cells #[.slice (some ⟨w3.heap.size + 1, 0, none⟩) 2 2, .slice (some ⟨w3.heap.size + 2, 0, none⟩) 2 2] 23)) (some ⟨w3.heap.size + 3, 0, none⟩) 2 [[1, 1], [128, 0]] := twoslotlaw02_alive.lits (heap_alloc_at (w := (((w3.alloc (.cells #[.int .u8 1, .int .u8 2] 5)).alloc (.cells #[.int .u8 1, .int .u8 1] 5)).alloc (.cells #[.int .u8 128, .int .u8 0] 5))) _ _ (by first | rfl | simp only [sz])) rfl rfl (by decide) (by decide) hL2 hL3
  have hX : Calls Tryd.prog 13 #[.slice (some ⟨w3.heap.size, 0, none⟩) 2 2, .slice (some ⟨w3.heap.size + 3, 0, none⟩) 2 2] ((((w3.alloc (.cells #[.int .u8 1, .int .u8 2] 5)).alloc (.cells #[.int .u8 1, .int .u8 1] 5)).alloc (.cells #[.int .u8 128, .int .u8 0] 5)).alloc (.cells #[.slice (some ⟨w3.heap.size + 1, 0, none⟩) 2 2, .slice (some ⟨w3.heap.size + 2, 0, none⟩) 2 2] 23)) (fun e w' => ∃ v0_ : Value, e = .returned (.tuple #[v0_, .int .i64 0]) ∧ Kd.R (Kd.int .u8) 5 w' 0 (fun _ => True) v0_ [28, 1] ∧ Below (World.heap ((((w3.alloc (.cells #[.int .u8 1, .int .u8 2] 5)).alloc (.cells #[.int .u8 1, .int .u8 1] 5)).alloc (.cells #[.int .u8 128, .int .u8 0] 5)).alloc (.cells #[.slice (some ⟨w3.heap.size + 1, 0, none⟩) 2 2, .slice (some ⟨w3.heap.size + 2, 0, none⟩) 2 2] 23))).size ((((w3.alloc (.cells #[.int .u8 1, .int .u8 2] 5)).alloc (.cells #[.int .u8 1, .int .u8 1] 5)).alloc (.cells #[.int .u8 128, .int .u8 0] 5)).alloc (.cells #[.slice (some ⟨w3.heap.size + 1, 0, none⟩) 2 2, .slice (some ⟨w3.heap.size + 2, 0, none⟩) 2 2] 23)) w') := by
    first | (refine (kernel_Dot.calls k (some ⟨w3.heap.size, 0, none⟩) 2 [1, 2] (some ⟨w3.heap.size + 3, 0, none⟩) 2 [[1, 1], [128, 0]] [28, 1] 0 ((((w3.alloc (.cells #[.int .u8 1, .int .u8 2] 5)).alloc (.cells #[.int .u8 1, .int .u8 1] 5)).alloc (.cells #[.int .u8 128, .int .u8 0] 5)).alloc (.cells #[.slice (some ⟨w3.heap.size + 1, 0, none⟩) 2 2, .slice (some ⟨w3.heap.size + 2, 0, none⟩) 2 2] 23)) hL1 (by decide) hL4 (by decide) H4.out).mono ?_; rintro e w' ⟨v, rfl, hv, hb⟩; exact ⟨v, rfl, Kd.R_mono (Kd.R_lower hv (Nat.zero_le _)) (fun _ _ => trivial), hb⟩)
          | (refine (kernel_Dot.calls k (fun k_ => k_ < (World.heap _).size) (some ⟨w3.heap.size, 0, none⟩) 2 [1, 2] (fun k_ => k_ < (World.heap _).size) (some ⟨w3.heap.size + 3, 0, none⟩) 2 [[1, 1], [128, 0]] [28, 1] 0 ((((w3.alloc (.cells #[.int .u8 1, .int .u8 2] 5)).alloc (.cells #[.int .u8 1, .int .u8 1] 5)).alloc (.cells #[.int .u8 128, .int .u8 0] 5)).alloc (.cells #[.slice (some ⟨w3.heap.size + 1, 0, none⟩) 2 2, .slice (some ⟨w3.heap.size + 2, 0, none⟩) 2 2] 23)) ⟨_, _, rfl, by decide, Kd.C_F (Kd.heap_int _) hL1⟩ ⟨_, _, rfl, by decide, Kd.C_F (Kd.heap_slice _ (Kd.heap_int _)) hL4⟩ H4.out).mono ?_; rintro e w' ⟨v, rfl, hv, hb⟩; exact ⟨v, rfl, Kd.R_mono (Kd.R_lower hv (Nat.zero_le _)) (fun _ _ => trivial), hb⟩)
  have HX := Lib.hid hX
  clear hX hL1 hL2 hL3 hL4
  go_wp2_with fail
  refine HX.out.mono ?_
  rintro e w4 ⟨v4, rfl, hv, hb⟩
  have hb2 := (((((Below.refl w3.heap.size w3).alloc (by first | exact Nat.le_refl _ | (simp only [sz]; omega) | omega) _).alloc (by first | exact Nat.le_refl _ | (simp only [sz]; omega) | omega) _).alloc (by first | exact Nat.le_refl _ | (simp only [sz]; omega) | omega) _).alloc (by first | exact Nat.le_refl _ | (simp only [sz]; omega) | omega) _).trans (hb.mono (by first | exact Nat.le_refl _ | (simp only [sz]; omega) | omega))
  replace V1 := Lib.hid (Kd.R_below V1.out hb2)
  replace V2 := Lib.hid (Kd.R_below V2.out hb2)
  replace V3 := Lib.hid (Kd.R_below V3.out hb2)
  replace HB := Lib.hid (below_step HB.out hb2)
  obtain ⟨g4, c4, rfl, -⟩ := Kd.R_form hv (by decide)
  have V4 := Lib.hid hv
  clear hv hb hb2 HX
  have hL1 : Kd.C (Kd.int .u8) (w4.alloc (.cells #[.int .u8 1, .int .u8 2] 5)) (some ⟨w4.heap.size, 0, none⟩) 2 [1, 2] := twoslotlaw02_alive.lit (xs := [1, 2]) (heap_alloc_at (w := w4) _ _ (by first | rfl | simp only [sz])) (by simp [encs]) (by decide)
  have hX : Calls Tryd.prog 12 #[.slice (some ⟨w4.heap.size, 0, none⟩) 2 2, .int .i64 4] (w4.alloc (.cells #[.int .u8 1, .int .u8 2] 5)) (fun e w' => ∃ v0_ : Value, e = .returned (.tuple #[v0_, .int .i64 0]) ∧ Kd.R (Kd.int .u8) 5 w' 0 (fun _ => True) v0_ [1, 2, 0, 0] ∧ Below (World.heap (w4.alloc (.cells #[.int .u8 1, .int .u8 2] 5))).size (w4.alloc (.cells #[.int .u8 1, .int .u8 2] 5)) w') := by
    first | (refine (kernel_Pad.calls (some ⟨w4.heap.size, 0, none⟩) 2 [1, 2] 4 [1, 2, 0, 0] 0 (w4.alloc (.cells #[.int .u8 1, .int .u8 2] 5)) hL1 (by decide) H5.out).mono ?_; rintro e w' ⟨v, rfl, hv, hb⟩; exact ⟨v, rfl, Kd.R_mono (Kd.R_lower hv (Nat.zero_le _)) (fun _ _ => trivial), hb⟩)
          | (refine (kernel_Pad.calls (fun k_ => k_ < (World.heap _).size) (some ⟨w4.heap.size, 0, none⟩) 2 [1, 2] 4 [1, 2, 0, 0] 0 (w4.alloc (.cells #[.int .u8 1, .int .u8 2] 5)) ⟨_, _, rfl, by decide, Kd.C_F (Kd.heap_int _) hL1⟩ H5.out).mono ?_; rintro e w' ⟨v, rfl, hv, hb⟩; exact ⟨v, rfl, Kd.R_mono (Kd.R_lower hv (Nat.zero_le _)) (fun _ _ => trivial), hb⟩)
  have HX := Lib.hid hX
  clear hX hL1
  go_wp2_with fail
  refine HX.out.mono ?_
  rintro e w5 ⟨v5, rfl, hv, hb⟩
  have hb2 := ((Below.refl w4.heap.size w4).alloc (by first | exact Nat.le_refl _ | (simp only [sz]; omega) | omega) _).trans (hb.mono (by first | exact Nat.le_refl _ | (simp only [sz]; omega) | omega))
  replace V1 := Lib.hid (Kd.R_below V1.out hb2)
  replace V2 := Lib.hid (Kd.R_below V2.out hb2)
  replace V3 := Lib.hid (Kd.R_below V3.out hb2)
  replace V4 := Lib.hid (Kd.R_below V4.out hb2)
  replace HB := Lib.hid (below_step HB.out hb2)
  obtain ⟨g5, c5, rfl, -⟩ := Kd.R_form hv (by decide)
  have V5 := Lib.hid hv
  clear hv hb hb2 HX
  have hL1 : Kd.C (Kd.int .u8) ((w5.alloc (.cells #[.int .u8 1] 5)).alloc (.cells #[.int .u8 1, .int .u8 2] 5)) (some ⟨w5.heap.size, 0, none⟩) 1 [1] := twoslotlaw02_alive.lit (xs := [1]) (blk_alloc (heap_alloc_at (w := w5) _ _ (by first | rfl | simp only [sz])) _) (by simp [encs]) (by decide)
  have hL2 : Kd.C (Kd.int .u8) ((w5.alloc (.cells #[.int .u8 1] 5)).alloc (.cells #[.int .u8 1, .int .u8 2] 5)) (some ⟨w5.heap.size + 1, 0, none⟩) 2 [1, 2] := twoslotlaw02_alive.lit (xs := [1, 2]) (heap_alloc_at (w := (w5.alloc (.cells #[.int .u8 1] 5))) _ _ (by first | rfl | simp only [sz])) (by simp [encs]) (by decide)
  have hX : Calls Tryd.prog 10 #[.slice (some ⟨w5.heap.size, 0, none⟩) 1 1, .slice (some ⟨w5.heap.size + 1, 0, none⟩) 2 2] ((w5.alloc (.cells #[.int .u8 1] 5)).alloc (.cells #[.int .u8 1, .int .u8 2] 5)) (fun e w' => ∃ v0_ : Value, e = .returned (.tuple #[v0_, .int .i64 20]) ∧ Kd.R (Kd.int .u8) 5 w' 0 (fun _ => True) v0_ [] ∧ Below (World.heap ((w5.alloc (.cells #[.int .u8 1] 5)).alloc (.cells #[.int .u8 1, .int .u8 2] 5))).size ((w5.alloc (.cells #[.int .u8 1] 5)).alloc (.cells #[.int .u8 1, .int .u8 2] 5)) w') := by
    first | (refine (kernel_Xor.calls k (some ⟨w5.heap.size, 0, none⟩) 1 [1] (some ⟨w5.heap.size + 1, 0, none⟩) 2 [1, 2] [] 20 ((w5.alloc (.cells #[.int .u8 1] 5)).alloc (.cells #[.int .u8 1, .int .u8 2] 5)) hL1 (by decide) hL2 (by decide) H6.out).mono ?_; rintro e w' ⟨v, rfl, hv, hb⟩; exact ⟨v, rfl, Kd.R_mono (Kd.R_lower hv (Nat.zero_le _)) (fun _ _ => trivial), hb⟩)
          | (refine (kernel_Xor.calls k (fun k_ => k_ < (World.heap _).size) (some ⟨w5.heap.size, 0, none⟩) 1 [1] (fun k_ => k_ < (World.heap _).size) (some ⟨w5.heap.size + 1, 0, none⟩) 2 [1, 2] [] 20 ((w5.alloc (.cells #[.int .u8 1] 5)).alloc (.cells #[.int .u8 1, .int .u8 2] 5)) ⟨_, _, rfl, by decide, Kd.C_F (Kd.heap_int _) hL1⟩ ⟨_, _, rfl, by decide, Kd.C_F (Kd.heap_int _) hL2⟩ H6.out).mono ?_; rintro e w' ⟨v, rfl, hv, hb⟩; exact ⟨v, rfl, Kd.R_mono (Kd.R_lower hv (Nat.zero_le _)) (fun _ _ => trivial), hb⟩)
  have HX := Lib.hid hX
  clear hX hL1 hL2
  go_wp2_with fail
  refine HX.out.mono ?_
  rintro e w6 ⟨v6, rfl, hv, hb⟩
  have hb2 := (((Below.refl w5.heap.size w5).alloc (by first | exact Nat.le_refl _ | (simp only [sz]; omega) | omega) _).alloc (by first | exact Nat.le_refl _ | (simp only [sz]; omega) | omega) _).trans (hb.mono (by first | exact Nat.le_refl _ | (simp only [sz]; omega) | omega))
  replace V1 := Lib.hid (Kd.R_below V1.out hb2)
  replace V2 := Lib.hid (Kd.R_below V2.out hb2)
  replace V3 := Lib.hid (Kd.R_below V3.out hb2)
  replace V4 := Lib.hid (Kd.R_below V4.out hb2)
  replace V5 := Lib.hid (Kd.R_below V5.out hb2)
  replace HB := Lib.hid (below_step HB.out hb2)
  obtain ⟨A6, c6, rfl⟩ := Kd.R_slice hv
  clear hv hb hb2 HX
  have hx1_0 : w6.cell? ⟨g1, 0, none⟩ = some (.int .u8 2) := (Kd.R_celln 0 V1.out 0 (by decide) (by decide)).1
  have hx1_1 : w6.cell? ⟨g1, 1, none⟩ = some (.int .u8 0) := (Kd.R_celln 0 V1.out 1 (by decide) (by decide)).1
  have hx2_0 : w6.cell? ⟨g2, 0, none⟩ = some (.int .u8 28) := (Kd.R_celln 0 V2.out 0 (by decide) (by decide)).1
  have hx2_1 : w6.cell? ⟨g2, 1, none⟩ = some (.int .u8 2) := (Kd.R_celln 0 V2.out 1 (by decide) (by decide)).1
  have hx3_0 : w6.cell? ⟨g3, 0, none⟩ = some (.int .u8 29) := (Kd.R_celln 0 V3.out 0 (by decide) (by decide)).1
  have hx4_0 : w6.cell? ⟨g4, 0, none⟩ = some (.int .u8 28) := (Kd.R_celln 0 V4.out 0 (by decide) (by decide)).1
  have hx4_1 : w6.cell? ⟨g4, 1, none⟩ = some (.int .u8 1) := (Kd.R_celln 0 V4.out 1 (by decide) (by decide)).1
  have hx5_1 : w6.cell? ⟨g5, 1, none⟩ = some (.int .u8 2) := (Kd.R_celln 0 V5.out 1 (by decide) (by decide)).1
  have hx5_3 : w6.cell? ⟨g5, 3, none⟩ = some (.int .u8 0) := (Kd.R_celln 0 V5.out 3 (by decide) (by decide)).1
  have HN := Lib.hid (Kd.C_nil (Kd.int .u8) w6)
  have HZ := Lib.hid (Kd.R_reads' V1.out).2.2
  have HC1 := Lib.hid (Kd.R_reads' V1.out).2.1
  clear V1 V2 V3 V4 V5
  go_wp2_with fail
  refine (kernel_Zero.calls none 0 [] true _ HN.out (Nat.le_refl _) H7.out).mono ?_
  rintro e w' ⟨rfl, ⟨nd, rfl⟩⟩
  go_wp2_with fail
  refine (kernel_Zero.calls (some ⟨g1, 0, none⟩) c1 [2, 0, 2] false _ (Kd.C_drewN HZ.out nd) HC1.out H8.out).mono ?_
  rintro e w' ⟨rfl, ⟨nd2, rfl⟩⟩
  go_wp2_with fail
  go_ret
  exact ⟨rfl, pw_below_drewN HB.out _⟩

end Go.Proofs.YtngdkbhpgkmllaaDoor.PN
