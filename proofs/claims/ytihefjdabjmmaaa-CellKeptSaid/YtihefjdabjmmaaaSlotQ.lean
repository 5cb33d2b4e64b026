/- What is written is read again, and the other way round; 'alike'. No condition. -/
import Derived.Test.YtihefjdabjmmaaaPDx8
import Derived.Test.YtihefjdabjmmaaaSlotP
import Derived.Test.YtihefjdabjmmaaaSlot
namespace Go.Proofs.Ytihefjdabjmmaaa.Pure
open Go Go.RowKit Go.Proofs.Ytihefjdabjmmaaa Go.Proofs.Ytihefjdabjmmaaa.PD Go.Proofs.YtihefjdabjmmaaaW.PrintWords Go.Proofs.YtihefjdabjmmaaaW.PrintLast Go.Proofs.YtihefjdabjmmaaaW.PrintMore
theorem be4_num4 {a b c d : Int} (ha : 0 ≤ a ∧ a < 256) (hb : 0 ≤ b ∧ b < 256) (hc : 0 ≤ c ∧ c < 256) (hd : 0 ≤ d ∧ d < 256) : be4 (num4 a b c d) = [a, b, c, d] := by
  have e1 : num4 a b c d / 16777216 % 256 = a := by unfold num4; omega
  have e2 : num4 a b c d / 65536 % 256 = b := by unfold num4; omega
  have e3 : num4 a b c d / 256 % 256 = c := by unfold num4; omega
  have e4 : num4 a b c d % 256 = d := by unfold num4; omega
  unfold be4
  rw [e1, e2, e3, e4]
theorem num_be4 {n : Int} (h0 : 0 ≤ n) (h1 : n < 4294967296) (t : List Int) : num (be4 n ++ t) = n := by
  show num4 (n / 16777216 % 256) (n / 65536 % 256) (n / 256 % 256) (n % 256) = n
  unfold num4
  omega
theorem be4_isB (n : Int) : isB (be4 n) := fun x hx => by
  simp only [be4, List.mem_cons, List.not_mem_nil, or_false] at hx
  rcases hx with h | h | h | h <;> omega
theorem isB_append {x y : List Int} (hx : isB x) (hy : isB y) : isB (x ++ y) := fun z hz => by
  rcases List.mem_append.1 hz with h | h
  · exact hx z h
  · exact hy z h
theorem vb_isB : ∀ v, isB (vb v)
  | [] => fun x hx => by simp [vb] at hx
  | n :: v => by
    have := vb_isB v
    unfold vb at *
    rw [List.map_cons, List.flatten_cons]
    exact isB_append (be4_isB n) this
theorem nums_vb : ∀ (v t : List Int), (∀ x ∈ v, 0 ≤ x ∧ x < 4294967296) → nums v.length (vb v ++ t) = v
  | [], _, _ => rfl
  | n :: v, t, h => by
    have hn := h n (by simp)
    have e : vb (n :: v) ++ t = be4 n ++ (vb v ++ t) := by simp [vb]
    rw [e, List.length_cons, nums, num_be4 hn.1 hn.2]
    show n :: nums v.length (vb v ++ t) = _
    rw [nums_vb v t (fun x hx => h x (by simp [hx]))]
theorem vb_nums : ∀ (m : Nat) (l : List Int), 4 * m ≤ l.length → isB l → vb (nums m l) ++ l.drop (4 * m) = l
  | 0, l, _, _ => by simp [vb, nums]
  | m + 1, l, h, hB => by
    obtain ⟨a, b, c, d, t, rfl⟩ := four_of (l := l) (by omega)
    have e := vb_nums m t (by simp at h; omega) (fun x hx => hB x (by simp [hx]))
    have e1 : num (a :: b :: c :: d :: t) = num4 a b c d := rfl
    have e2 : vb (nums (m + 1) (a :: b :: c :: d :: t)) = be4 (num4 a b c d) ++ vb (nums m t) := by
      show vb (num (a :: b :: c :: d :: t) :: nums m t) = _
      rw [e1]; simp [vb]
    rw [e2, be4_num4 (hB a (by simp)) (hB b (by simp)) (hB c (by simp)) (hB d (by simp))]
    have e3 : (a :: b :: c :: d :: t).drop (4 * (m + 1)) = t.drop (4 * m) := by
      rw [show 4 * (m + 1) = 4 + 4 * m by omega, ← List.drop_drop]
      rfl
    rw [e3, List.append_assoc, e]
    rfl
theorem alike_l1 {v data w data' : List Int} {kind index cell stripe kind' index' cell' stripe' : Int} (hl : data.length = data'.length) (hb : data.length < 4611686018427387904) : ∀ (e k i : Nat), i + e = data.length → e < k →
    twoslotlaw10_alike.l1 k (i : Int) kind index cell stripe v data kind' index' cell' stripe' w data' = some (decide (data.drop i = data'.drop i))
  | 0, k, i, h, hk => by
    obtain ⟨k, rfl⟩ : ∃ m, k = m + 1 := ⟨k - 1, by omega⟩
    simp only [twoslotlaw10_alike.l1]
    rw [if_neg (by omega), List.drop_of_length_le (by omega), List.drop_of_length_le (by omega)]
    simp
  | e + 1, k, i, h, hk => by
    obtain ⟨k, rfl⟩ : ∃ m, k = m + 1 := ⟨k - 1, by omega⟩
    simp only [twoslotlaw10_alike.l1]
    rw [if_pos (by omega), if_pos (by omega), if_pos (by omega), rd_at (by omega), rd_at (show i < data'.length by omega), w64s (by omega), alike_l1 hl hb e k (i + 1) (by omega) (by omega),
      List.drop_eq_getElem_cons (show i < data.length by omega), List.drop_eq_getElem_cons (show i < data'.length by omega)]
    by_cases e : data[i] = data'[i]
    · rw [if_pos e, e]; simp only [List.cons.injEq, true_and]
    · rw [if_neg e]; simp only [List.cons.injEq, e, false_and, decide_false]
theorem alike_l0 {v data w data' : List Int} {kind index cell stripe kind' index' cell' stripe' : Int} (hv : v.length = w.length) (hl : data.length = data'.length) (hb : data.length < 4611686018427387904) (hb2 : v.length < 4611686018427387904) : ∀ (e k i : Nat), i + e = v.length → e + data.length + 2 ≤ k →
    twoslotlaw10_alike.l0 k (i : Int) kind index cell stripe v data kind' index' cell' stripe' w data' = some (decide (v.drop i = w.drop i ∧ data = data'))
  | 0, k, i, h, hk => by
    obtain ⟨k, rfl⟩ : ∃ m, k = m + 1 := ⟨k - 1, by omega⟩
    have e0 := alike_l1 (v := v) (data := data) (w := w) (data' := data') (kind := kind) (index := index) (cell := cell) (stripe := stripe) (kind' := kind') (index' := index') (cell' := cell') (stripe' := stripe') hl hb data.length k 0 (by omega) (by omega)
    simp only [twoslotlaw10_alike.l0]
    rw [if_neg (by omega), List.drop_of_length_le (by omega), List.drop_of_length_le (by omega)]
    simpa using e0
  | e + 1, k, i, h, hk => by
    obtain ⟨k, rfl⟩ : ∃ m, k = m + 1 := ⟨k - 1, by omega⟩
    simp only [twoslotlaw10_alike.l0]
    rw [if_pos (by omega), if_pos (by omega), if_pos (by omega), rd_at (by omega), rd_at (show i < w.length by omega), w64s (by omega), alike_l0 hv hl hb hb2 e k (i + 1) (by omega) (by omega),
      List.drop_eq_getElem_cons (show i < v.length by omega), List.drop_eq_getElem_cons (show i < w.length by omega)]
    by_cases e : v[i] = w[i]
    · rw [if_pos e, e]; simp only [List.cons.injEq, true_and]
    · rw [if_neg e]; simp only [List.cons.injEq, e, false_and, decide_false]
theorem alike_f {k : Nat} {kind index cell stripe kind' index' cell' stripe' : Int} {v data w data' : List Int} (hk : v.length + data.length + 10 ≤ k) (hb : data.length < 4611686018427387904) (hb2 : v.length < 4611686018427387904) :
    twoslotlaw10_alike.f k kind index cell stripe v data kind' index' cell' stripe' w data' = some (decide (kind = kind' ∧ index = index' ∧ cell = cell' ∧ stripe = stripe' ∧ v = w ∧ data = data')) := by
  obtain ⟨k, rfl⟩ : ∃ m, k = m + 1 := ⟨k - 1, by omega⟩
  unfold twoslotlaw10_alike.f
  have j0 : twoslotlaw10_alike.j0 (k + 1) true kind index cell stripe v data kind' index' cell' stripe' w data' = some false := by simp only [twoslotlaw10_alike.j0, if_true]
  by_cases h1 : kind = kind'
  case neg => rw [if_neg h1, j0, decide_eq_false (fun z => h1 z.1)]
  rw [if_pos h1]
  by_cases h2 : index = index'
  case neg => rw [if_neg h2, j0, decide_eq_false (fun z => h2 z.2.1)]
  rw [if_pos h2]
  by_cases h3 : cell = cell'
  case neg => rw [if_neg h3, j0, decide_eq_false (fun z => h3 z.2.2.1)]
  rw [if_pos h3]
  by_cases h4 : stripe = stripe'
  case neg => rw [if_neg h4, j0, decide_eq_false (fun z => h4 z.2.2.2.1)]
  rw [if_pos h4]
  by_cases h5 : (v.length : Int) = (w.length : Int)
  case neg => rw [if_neg h5, j0, decide_eq_false (fun z => h5 (by rw [z.2.2.2.2.1]))]
  rw [if_pos h5]
  by_cases h6 : (data.length : Int) = (data'.length : Int)
  case neg => rw [bne_iff_ne.2 h6, j0, decide_eq_false (fun z => h6 (by rw [z.2.2.2.2.2]))]
  rw [h6, bne_self_eq_false]
  have e0 := alike_l0 (v := v) (data := data) (w := w) (data' := data') (kind := kind) (index := index) (cell := cell) (stripe := stripe) (kind' := kind') (index' := index') (cell' := cell') (stripe' := stripe') (by omega) (by omega) hb hb2 v.length k 0 (by omega) (by omega)
  simp only [twoslotlaw10_alike.j0, Bool.false_eq_true, if_false]
  simpa [h1, h2, h3, h4] using e0
theorem strOfNums_inj {x y : List Int} (hx : isB x) (hy : isB y) (h : (strOfNums x).toList = (strOfNums y).toList) : x = y := by
  rw [Lib.strOfNums_toList, Lib.strOfNums_toList] at h
  have key : ∀ l : List Int, isB l → (Lib.bytesOf l).map (fun b => (b.toNat : Int)) = l := by
    intro l
    induction l with
    | nil => intro _; rfl
    | cons a l ih =>
      intro hl
      have ha := hl a (by simp)
      have e := ih (fun z hz => hl z (by simp [hz]))
      unfold Lib.bytesOf at *
      simp only [List.map_cons, List.cons.injEq]
      refine ⟨?_, e⟩
      have : (UInt8.ofNat a.toNat).toNat = a.toNat := by
        rw [UInt8.toNat_ofNat']; omega
      omega
  rw [← key x hx, ← key y hy, h]
theorem sb_cons (kind index cell stripe : Int) (v data : List Int) : sb kind index cell stripe v data = 84 :: 50 :: kind :: (index % 256) :: (be4 cell ++ (be4 stripe ++ (vb v ++ data))) := by simp [sb]
theorem sb_len (kind index cell stripe : Int) (v data : List Int) : (sb kind index cell stripe v data).length = 12 + 4 * v.length + data.length := by
  simp only [sb, List.length_append, vb_len, be4, List.length_cons, List.length_nil]
theorem prs_sb {a b c d kind index cell stripe : Int} {v data : List Int} (hp : pOk a b c d) (h : sMay a b c d kind index cell stripe v data) (hv : ∀ x ∈ v, 0 ≤ x ∧ x < 4294967296) (hc : 0 ≤ cell ∧ cell < 4294967296) (hs : 0 ≤ stripe ∧ stripe < 4294967296) :
    prs a b c d (sb kind index cell stripe v data) = (kind, index, cell, stripe, v, data, true, 0) := by
  have hl := (chk_zero.1 h.1).2.1
  have hsh := short h.1
  have hd := h.2.2.2.2.2.2
  have hi := h.2.2.1
  have hi2 := h.2.2.2.1
  have hpp := hp
  unfold pOk at hpp
  have hvl : v.length = (a + b).toNat := by omega
  unfold prs
  rw [if_pos hp, if_neg (by rw [sb_len]; omega), if_pos (by rw [sb_len]; omega)]
  rw [sb_cons]
  rw [if_pos ⟨rfl, rfl⟩]
  have e1 : rd (84 :: 50 :: kind :: (index % 256) :: (be4 cell ++ (be4 stripe ++ (vb v ++ data)))) 2 = kind := rfl
  have e2 : rd (84 :: 50 :: kind :: (index % 256) :: (be4 cell ++ (be4 stripe ++ (vb v ++ data)))) 3 = index := by show index % 256 = index; omega
  have e3 : num ((84 :: 50 :: kind :: (index % 256) :: (be4 cell ++ (be4 stripe ++ (vb v ++ data)))).drop 4) = cell := num_be4 hc.1 hc.2 _
  have e4 : num ((84 :: 50 :: kind :: (index % 256) :: (be4 cell ++ (be4 stripe ++ (vb v ++ data)))).drop 8) = stripe := num_be4 hs.1 hs.2 _
  have e5 : (84 :: 50 :: kind :: (index % 256) :: (be4 cell ++ (be4 stripe ++ (vb v ++ data)))).drop 12 = vb v ++ data := rfl
  have e6 : (84 :: 50 :: kind :: (index % 256) :: (be4 cell ++ (be4 stripe ++ (vb v ++ data)))).drop (12 + 4 * (a + b).toNat) = data := by
    rw [← List.drop_drop, e5, ← hvl, ← vb_len v, List.drop_left]
  rw [e1, e2, e3, e4, e5, e6, ← hvl, nums_vb v data hv]
  unfold psd
  rw [if_pos h]
theorem prs_cases {a b c d : Int} {l : List Int} (hB : isB l) : (∃ e, prs a b c d l = (0, 0, 0, 0, [], [], false, e)) ∨
    ∃ kind index cell stripe v data, prs a b c d l = (kind, index, cell, stripe, v, data, true, 0) ∧ pOk a b c d ∧ sMay a b c d kind index cell stripe v data ∧ sb kind index cell stripe v data = l := by
  unfold prs
  by_cases hp : pOk a b c d
  case neg => rw [if_neg hp]; exact .inl ⟨_, rfl⟩
  rw [if_pos hp]
  by_cases h0 : l.length = 0
  · rw [if_pos h0]; exact .inl ⟨_, rfl⟩
  rw [if_neg h0]
  by_cases h1 : (l.length : Int) = 12 + 4 * (a + b) + c
  case neg => rw [if_neg h1]; exact .inl ⟨_, rfl⟩
  rw [if_pos h1]
  by_cases h2 : rd l 0 = 84 ∧ rd l 1 = 50
  case neg => rw [if_neg h2]; exact .inl ⟨_, rfl⟩
  rw [if_pos h2]
  unfold psd
  split
  case isFalse => exact .inl ⟨_, rfl⟩
  case isTrue h =>
  refine .inr ⟨_, _, _, _, _, _, rfl, hp, h, ?_⟩
  unfold pOk at hp
  obtain ⟨x0, x1, x2, x3, t, rfl⟩ := four_of (l := l) (by omega)
  obtain ⟨y0, y1, y2, y3, t2, rfl⟩ := four_of (l := t) (by simp at h1; omega)
  obtain ⟨z0, z1, z2, z3, t3, rfl⟩ := four_of (l := t2) (by simp at h1; omega)
  have g0 : x0 = 84 := h2.1
  have g1 : x1 = 50 := h2.2
  subst g0 g1
  have b3 := hB x3 (by simp)
  rw [sb_cons]
  show 84 :: 50 :: x2 :: (x3 % 256) :: (be4 (num4 y0 y1 y2 y3) ++ (be4 (num4 z0 z1 z2 z3) ++ (vb (nums (a + b).toNat t3) ++ List.drop (12 + 4 * (a + b).toNat) _))) = _
  rw [← List.drop_drop, be4_num4 (hB y0 (by simp)) (hB y1 (by simp)) (hB y2 (by simp)) (hB y3 (by simp)), be4_num4 (hB z0 (by simp)) (hB z1 (by simp)) (hB z2 (by simp)) (hB z3 (by simp))]
  have e5 : List.drop 12 (84 :: 50 :: x2 :: x3 :: y0 :: y1 :: y2 :: y3 :: z0 :: z1 :: z2 :: z3 :: t3) = t3 := rfl
  rw [e5, vb_nums _ t3 (by simp at h1; omega) (fun x hx => hB x (by simp [hx])), show x3 % 256 = x3 by omega]
  rfl
theorem fold_mem : ∀ (v : List Int) (x : Int), v.foldl mx x = x ∨ v.foldl mx x ∈ v
  | [], x => .inl rfl
  | y :: v, x => by
    rw [List.foldl_cons]
    rcases fold_mem v (mx x y) with h | h
    · rw [h, mx_eq]
      split
      · exact .inr (by simp)
      · exact .inl rfl
    · exact .inr (by simp [h])
theorem fold_le {M : Int} : ∀ (l : List Int) (a : Int), l.foldl mx a ≤ M ↔ a ≤ M ∧ ∀ x ∈ l, x ≤ M
  | [], a => by simp
  | x :: l, a => by
    rw [List.foldl_cons, fold_le l]
    simp only [mx_eq, List.mem_cons, forall_eq_or_imp]
    constructor
    · rintro ⟨h1, h2⟩
      split at h1 <;> exact ⟨by omega, by omega, h2⟩
    · rintro ⟨h1, h2, h3⟩
      exact ⟨by split <;> omega, h3⟩
/-- what a slot that may be holds -/
theorem may_all {a b c d kind index cell stripe : Int} {v data : List Int} (h : sMay a b c d kind index cell stripe v data) : (∀ x ∈ v, 1 ≤ x ∧ x ≤ stripe ∧ x ≤ 1073741824) ∧ stripe ∈ v ∧ (1 ≤ cell ∧ cell ≤ 1073741824) ∧ 1 ≤ stripe ∧ stripe ≤ 1073741824 := by
  obtain ⟨h1, h2, h3, h4, h5, h6, h7⟩ := h
  have hb := (chk_zero.1 h1).2.2
  have hv : ∀ x ∈ v, 1 ≤ x ∧ x ≤ 1073741824 := fun x hx => by
    have := List.any_eq_false.1 hb x hx
    rw [Bool.not_eq_true, hBad_iff] at this
    exact this
  have hle := (fold_le v 0).1 (Int.le_refl (v.foldl mx 0))
  obtain ⟨j, rfl⟩ := Int.eq_ofNat_of_zero_le h3
  have hj : v[j]'(by omega) ∈ v := List.getElem_mem _
  have hc : cell = v[j]'(by omega) := by rw [h6]; exact rd_at (by omega)
  have hm : stripe ∈ v := by
    rcases fold_mem v 0 with h | h
    · have := hle.2 _ hj; have := hv _ hj; omega
    · rw [h2]; exact h
  have hs := hv _ hm
  exact ⟨fun x hx => ⟨(hv x hx).1, by rw [h2]; exact hle.2 x hx, (hv x hx).2⟩, hm, by rw [hc]; exact hv _ hj, hs⟩
end Go.Proofs.Ytihefjdabjmmaaa.Pure
