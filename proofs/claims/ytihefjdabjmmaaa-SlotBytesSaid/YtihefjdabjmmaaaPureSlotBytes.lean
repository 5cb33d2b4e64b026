/- A slot's bytes are the document's. -/
import Derived.Test.YtihefjdabjmmaaaPEx11
import Derived.Test.YtihefjdabjmmaaaSlotR
namespace Go.Proofs.Ytihefjdabjmmaaa.Pure
open Go Go.RowKit Go.Proofs.Ytihefjdabjmmaaa Go.Proofs.Ytihefjdabjmmaaa.PE Go.Proofs.YtihefjdabjmmaaaW.PrintWords Go.Proofs.YtihefjdabjmmaaaW.PrintLast Go.Proofs.YtihefjdabjmmaaaW.PrintMore
theorem slotBytes_l0 {a b c d kind index cell stripe r2 : Int} {v data z : List Int} {K : Nat} (hb : ∀ k, K ≤ k → slot_Bytes.f k a b c d kind index cell stripe v data = some (z, r2)) (hK : v.length + 50 ≤ K) (hv : v.length < 4611686018427387904) : ∀ (e k i : Nat) (o : List Int), i + e = o.length → o.length < 4611686018427387904 → e + K < k →
    twoslotlaw10_SlotBytes.l0 k o z true (i : Int) a b c d kind index cell stripe v data kind index cell stripe v data = some true
  | 0, k, i, o, h, ho, hk => by
    obtain ⟨k, rfl⟩ : ∃ m, k = m + 1 := ⟨k - 1, by omega⟩
    simp only [twoslotlaw10_SlotBytes.l0]
    rw [if_neg (by omega), hb k (by omega)]
    simp only [Option.bind_some, if_true]
    rw [same_refl (by omega) hv]
    simp
  | e + 1, k, i, o, h, ho, hk => by
    obtain ⟨k, rfl⟩ : ∃ m, k = m + 1 := ⟨k - 1, by omega⟩
    simp only [twoslotlaw10_SlotBytes.l0]
    rw [if_pos (by omega), if_pos (by omega), w64s (by omega)]
    exact slotBytes_l0 hb hK hv e k (i + 1) _ (by simp; omega) (by simpa using ho) (by omega)
theorem SlotBytes : twoslotlaw10_SlotBytes.Pure := by
  intro a b c d kind index cell stripe v data _ _ _ _ _ _ _ _ hv hd
  obtain ⟨hv1, hv2, _⟩ := hv
  obtain ⟨hd1, hd2, _⟩ := hd
  have hvl : v.length < 17592186044416 := by omega
  have hdl : data.length < 140737488355328 := by omega
  have hb : ∀ k, 40 ≤ k → slot_Bytes.f k a b c d kind index cell stripe v data = some (if pOk a b c d then (if sMay a b c d kind index cell stripe v data then (sb kind index cell stripe v data, 0) else ([], 100)) else ([], 2)) := fun k hk => bytes_f hk a b c d kind index cell stripe v data
  have hr : ∀ k, 40 ≤ k → twoslotref10_Bytes.f k a b c d kind index cell stripe v data = some (if pOk a b c d then (if sMay a b c d kind index cell stripe v data then (sb kind index cell stripe v data, 0) else ([], 100)) else ([], 2)) := fun k hk => rbytes_f hk a b c d kind index cell stripe v data
  have hz : (if pOk a b c d then (if sMay a b c d kind index cell stripe v data then (sb kind index cell stripe v data, (0 : Int)) else ([], 100)) else ([], 2)).1.length < 4611686018427387904 := by
    split
    · split
      · rename_i h1 h2
        have hs := short h2.1
        simp only [sb, List.length_append, vb_len, be4, List.length_cons, List.length_nil]
        omega
      · simp
    · simp
  generalize (if pOk a b c d then (if sMay a b c d kind index cell stripe v data then (sb kind index cell stripe v data, (0 : Int)) else ([], 100)) else ([], 2)) = R at hb hr hz
  obtain ⟨z, r2⟩ := R
  obtain ⟨m, hm⟩ : ∃ k, v.length + 100 + z.length + 100 ≤ k := ⟨_, Nat.le_refl _⟩
  refine ⟨m + 1 + 1, ?_⟩
  unfold twoslotlaw10_SlotBytes.f
  rw [awake_f (by omega)]
  simp only [Option.bind_some, if_true]
  rw [twin_f hvl hdl]
  simp only [Option.bind_some]
  rw [size_f (by omega), rsize_f]
  simp only [Option.bind_some]
  rw [hb _ (by omega), hr _ (by omega)]
  simp only [Option.bind_some, if_true]
  rw [same_refl (by omega) (by omega)]
  simp only [Option.bind_some]
  simp only [twoslotlaw10_SlotBytes.j0]
  exact slotBytes_l0 (K := v.length + 50) (fun k hk => hb k (by omega)) (by omega) (by omega) z.length _ 0 z (by omega) hz (by omega)
end Go.Proofs.Ytihefjdabjmmaaa.Pure
