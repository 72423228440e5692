/- Part 32 of what is proved: Py. -/
import Derived.Test.YtbngedcblngnhaaDoorHs1
import Derived.Test.YtbngedcblngnhaaDoorHs17
set_option linter.unusedSimpArgs false
set_option linter.unusedVariables false
set_option linter.unnecessarySimpa false
set_option maxRecDepth 100000
set_option maxHeartbeats 1600000
namespace Go.Proofs.YtbngedcblngnhaaDoor
theorem fma_one (f m a c : Nat) (hf : f < 4) (ha : fitsB f a = true) (hc : fitsB f c = true) : fmaR f m a (oneN f false) c = addR f m a c := by
  obtain ⟨o1, o2, o3, o4⟩ := one_parts f false hf
  have ho : belowN4 (clsN f (oneN f false)) = false := by rw [o2]; rfl
  have hon : nanB (clsN f (oneN f false)) = false ∧ infB (clsN f (oneN f false)) = false ∧ zerB (clsN f (oneN f false)) = false := by rw [o2]; exact ⟨rfl, rfl, rfl⟩
  have h8 : decide (clsN f (oneN f false) = 8) = false := by rw [o2]; rfl
  have h7 := (formK f hf).2.2.2.2.2.2.1
  unfold fmaR addR canon3 canonR
  rw [hon.1, hon.2.1, hon.2.2, ho, h8, o3, o4]
  simp only [Bool.or_false, Bool.and_false, Bool.false_and, Bool.false_eq_true, if_false, bne_false]
  by_cases hn : (nanB (clsN f a) || nanB (clsN f c)) = true
  · rw [if_pos hn, if_pos hn]
  · rw [if_neg hn, if_neg hn]
    have hna : ¬ 8 ≤ clsN f a := fun h => hn (by rw [show nanB (clsN f a) = true from decide_eq_true h]; rfl)
    have hnc : ¬ 8 ≤ clsN f c := fun h => hn (by rw [show nanB (clsN f c) = true from decide_eq_true h]; simp)
    rcases cls_sort f a with ca | ca | ca | ca
    · exact absurd ca hna
    · obtain ⟨a1, a2, a3⟩ := inf_flags f a ca
      have hia : infN f (belowN4 (clsN f a)) = a := by rw [below_neg f a hna]; exact inf_of f a ha ca
      rw [a2, if_pos rfl, hia]
      rcases cls_sort f c with cc | cc | cc | cc
      · exact absurd cc hnc
      · obtain ⟨c1, c2, c3⟩ := inf_flags f c cc
        rw [c2]
        have : (belowN4 (clsN f c) != belowN4 (clsN f a)) = !decide (clsN f a = clsN f c) := by
          rcases ca with h | h <;> rcases cc with h' | h' <;> rw [h, h'] <;> rfl
        rw [this]; simp
      · obtain ⟨c1, c2, c3⟩ := zer_flags f c cc
        rw [c2]; simp
      · obtain ⟨c1, c2, c3⟩ := fin_flags f c cc
        rw [c2]; simp
    · obtain ⟨a1, a2, a3⟩ := zer_flags f a ca
      rw [a2, a3]
      rcases cls_sort f c with cc | cc | cc | cc
      · exact absurd cc hnc
      · obtain ⟨c1, c2, c3⟩ := inf_flags f c cc
        rw [c2]; simp
      · obtain ⟨c1, c2, c3⟩ := zer_flags f c cc
        rw [c2, c3]
        by_cases he : clsN f a = clsN f c
        · have := zero_same f a c ha hc ca he
          subst this; simp
        · have hb : ¬ belowN4 (clsN f c) = belowN4 (clsN f a) := by
            rcases ca with h | h <;> rcases cc with h' | h'
            · exact absurd (h.trans h'.symm) he
            · rw [h, h']; decide
            · rw [h, h']; decide
            · exact absurd (h.trans h'.symm) he
          rw [if_neg he, if_neg hb]; simp
      · obtain ⟨c1, c2, c3⟩ := fin_flags f c cc
        rw [c2, c3]; simp
    · obtain ⟨a1, a2, a3⟩ := fin_flags f a ca
      obtain ⟨acan, aenc⟩ := can_of f a ha ca
      rw [a2, a3]
      have e1 : xpN f a + (1 - (pF f : Int)) = xpN f a - ((pF f - 1 : Nat) : Int) := by omega
      rcases cls_sort f c with cc | cc | cc | cc
      · exact absurd cc hnc
      · obtain ⟨c1, c2, c3⟩ := inf_flags f c cc
        rw [c2]; simp
      · obtain ⟨c1, c2, c3⟩ := zer_flags f c cc
        rw [c2, c3, below_neg f a hna, e1, pack_shift f m _ _ _ _ acan.pos, pack_can f m _ _ _ hf acan, aenc]; simp
      · obtain ⟨c1, c2, c3⟩ := fin_flags f c cc
        obtain ⟨ccan, cenc⟩ := can_of f c hc cc
        rw [c2, c3, e1, sumX_left f m _ _ _ _ _ _ _ acan.pos ccan.pos]; simp
end Go.Proofs.YtbngedcblngnhaaDoor
