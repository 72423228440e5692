/- Encodings on plain numbers: what their fields are, what they are of; what is exactly a number of the format is delivered as it is. -/
import Derived.Test.YtjgonofkklpgaaaDoorPk
namespace Go.Proofs.YtjgonofkklpgaaaDoor

theorem fields_mk (P K t e : Nat) (neg : Bool) (ht : t < 2 ^ P) (he : e < 2 ^ K) :
    (e * 2 ^ P + t + cond neg (2 ^ (P + K)) 0) % 2 ^ P = t ∧ (e * 2 ^ P + t + cond neg (2 ^ (P + K)) 0) / 2 ^ P % 2 ^ K = e ∧
    (e * 2 ^ P + t + cond neg (2 ^ (P + K)) 0).testBit (P + K) = neg ∧ e * 2 ^ P + t + cond neg (2 ^ (P + K)) 0 < 2 ^ (P + K + 1) := by
  have hp := two_pos P
  have hk := two_pos K
  have e1 : e * 2 ^ P + t + cond neg (2 ^ (P + K)) 0 = 2 ^ P * (e + cond neg 1 0 * 2 ^ K) + t := by
    rw [Nat.mul_add, Nat.mul_comm e, Nat.pow_add]; cases neg <;> simp <;> omega
  have hdiv : (2 ^ P * (e + cond neg 1 0 * 2 ^ K) + t) / 2 ^ P = e + cond neg 1 0 * 2 ^ K := by
    rw [Nat.mul_add_div hp, Nat.div_eq_of_lt ht, Nat.add_zero]
  have hlt : 2 ^ P * (e + cond neg 1 0 * 2 ^ K) + t < 2 ^ P * 2 ^ (K + 1) := by
    have : e + cond neg 1 0 * 2 ^ K + 1 ≤ 2 ^ (K + 1) := by rw [Nat.pow_succ]; cases neg <;> simp <;> omega
    have := Nat.mul_le_mul_left (2 ^ P) this
    rw [Nat.mul_add _ _ 1] at this; omega
  rw [e1]
  refine ⟨?_, ?_, ?_, ?_⟩
  · rw [Nat.mul_add_mod]; exact Nat.mod_eq_of_lt ht
  · rw [hdiv, Nat.add_mul_mod_self_right]; exact Nat.mod_eq_of_lt he
  · rw [Nat.testBit_eq_decide_div_mod_eq, Nat.pow_add, ← Nat.div_div_eq_div_mul, hdiv, Nat.add_mul_div_right _ _ hk, Nat.div_eq_of_lt he]
    cases neg <;> rfl
  · rw [Nat.add_assoc, Nat.pow_add]; exact hlt
theorem fields_of (P K b : Nat) (h : b < 2 ^ (P + K + 1)) : b / 2 ^ P % 2 ^ K * 2 ^ P + b % 2 ^ P + cond (b.testBit (P + K)) (2 ^ (P + K)) 0 = b := by
  have h1 := Nat.div_add_mod b (2 ^ P)
  have h2 := Nat.div_add_mod (b / 2 ^ P) (2 ^ K)
  have hq : b / 2 ^ P / 2 ^ K < 2 := by
    rw [Nat.div_div_eq_div_mul, ← Nat.pow_add, Nat.div_lt_iff_lt_mul (two_pos _)]
    rw [Nat.pow_succ] at h; omega
  rw [Nat.testBit_eq_decide_div_mod_eq, Nat.pow_add 2 P K, ← Nat.div_div_eq_div_mul]
  generalize b / 2 ^ P / 2 ^ K = q at *
  generalize b / 2 ^ P % 2 ^ K = e at *
  have : q = 0 ∨ q = 1 := by omega
  rcases this with rfl | rfl
  · rw [Nat.mul_zero] at h2
    simp only [Nat.zero_mod, decide_false, cond, Nat.zero_ne_one]
    rw [← h2, Nat.mul_comm, Nat.zero_add] at h1; omega
  · rw [Nat.mul_one] at h2
    rw [← h2, Nat.mul_add, Nat.mul_comm (2 ^ P) e] at h1
    simp; omega

/-- The formats' widths: a sign, K bits, P bits. -/
theorem formK (f : Nat) (h : f < 4) : wF f = pF f - 1 + (wF f - pF f) + 1 ∧ wF f - 1 = pF f - 1 + (wF f - pF f) ∧ 2 ^ (wF f - pF f) = 2 * eF f + 2 ∧ 15 ≤ eF f ∧ eF f ≤ 16383 ∧ eminI f = 1 - (eF f : Int) ∧ 11 ≤ pF f ∧ pF f ≤ 113 := by
  have : f = 0 ∨ f = 1 ∨ f = 2 ∨ f = 3 := by omega
  rcases this with rfl | rfl | rfl | rfl <;> decide
theorem fits_iff (f b : Nat) : fitsB f b = true ↔ f < 4 ∧ b < 2 ^ wF f := by unfold fitsB; simp
/-- Encodings of three fields. -/
def mkN (f : Nat) (neg : Bool) (e t : Nat) : Nat := e * 2 ^ (pF f - 1) + t + signN f neg
theorem mkN_fields (f : Nat) (hf : f < 4) (neg : Bool) (e t : Nat) (ht : t < 2 ^ (pF f - 1)) (he : e < 2 * eF f + 2) :
    mkN f neg e t % 2 ^ (pF f - 1) = t ∧ expN f (mkN f neg e t) = e ∧ (mkN f neg e t).testBit (wF f - 1) = neg ∧ fitsB f (mkN f neg e t) = true := by
  obtain ⟨h1, h2, h3, -⟩ := formK f hf
  have := fields_mk (pF f - 1) (wF f - pF f) t e neg ht (by rw [h3]; exact he)
  rw [← h2] at this
  unfold expN
  refine ⟨this.1, this.2.1, this.2.2.1, (fits_iff _ _).2 ⟨hf, ?_⟩⟩
  have h4 := this.2.2.2
  rw [h2, ← h1] at h4
  unfold mkN signN
  rw [h2]; exact h4
theorem mkN_of (f b : Nat) (h : fitsB f b = true) : mkN f (b.testBit (wF f - 1)) (expN f b) (b % 2 ^ (pF f - 1)) = b := by
  obtain ⟨hf, hb⟩ := (fits_iff f b).1 h
  obtain ⟨h1, h2, -⟩ := formK f hf
  have := fields_of (pF f - 1) (wF f - pF f) b (by rw [← h1]; exact hb)
  unfold mkN expN signN
  rw [h2]; exact this
theorem expN_lt (f b : Nat) (hf : f < 4) : expN f b < 2 * eF f + 2 := by
  obtain ⟨-, -, h3, -⟩ := formK f hf
  rw [← h3]; exact Nat.mod_lt _ (two_pos _)

/-- The parts of an encoding. -/
def sigN (f b : Nat) : Nat := if clsN f b = 1 ∨ clsN f b = 6 then b % 2 ^ (pF f - 1) + 2 ^ (pF f - 1) else if clsN f b = 2 ∨ clsN f b = 5 then b % 2 ^ (pF f - 1) else 0
def xpN (f b : Nat) : Int := if clsN f b = 1 ∨ clsN f b = 6 then (expN f b : Int) - 1 + eminI f - (pF f : Nat) + 1 else if clsN f b = 2 ∨ clsN f b = 5 then (expN f b : Int) + eminI f - (pF f : Nat) + 1 else 0
def frN (f b : Nat) : Nat := if 8 ≤ clsN f b then b % 2 ^ (pF f - 1) else 0
def negN (f b : Nat) : Bool := b.testBit (wF f - 1)

/-- The classes, by the fields. -/
theorem cls_cases (f b : Nat) :
    (expN f b = 2 * eF f + 1 ∧ b % 2 ^ (pF f - 1) = 0 ∧ clsN f b = cond (negN f b) 0 7) ∨
    (expN f b = 2 * eF f + 1 ∧ b % 2 ^ (pF f - 1) ≠ 0 ∧ clsN f b = cond ((b % 2 ^ (pF f - 1)).testBit (pF f - 2)) 9 8) ∨
    (expN f b = 0 ∧ b % 2 ^ (pF f - 1) = 0 ∧ clsN f b = cond (negN f b) 3 4) ∨
    (expN f b = 0 ∧ b % 2 ^ (pF f - 1) ≠ 0 ∧ clsN f b = cond (negN f b) 2 5) ∨
    (expN f b ≠ 0 ∧ expN f b ≠ 2 * eF f + 1 ∧ clsN f b = cond (negN f b) 1 6) := by
  unfold clsN negN
  by_cases h1 : expN f b = 2 * eF f + 1
  · by_cases h2 : b % 2 ^ (pF f - 1) = 0
    · left; rw [if_pos h1, if_pos h2]; exact ⟨h1, h2, rfl⟩
    · right; left; rw [if_pos h1, if_neg h2]; exact ⟨h1, h2, rfl⟩
  · by_cases h3 : expN f b = 0
    · by_cases h2 : b % 2 ^ (pF f - 1) = 0
      · right; right; left; rw [if_neg h1, if_pos h3, if_pos h2]; exact ⟨h3, h2, rfl⟩
      · right; right; right; left; rw [if_neg h1, if_pos h3, if_neg h2]; exact ⟨h3, h2, rfl⟩
    · right; right; right; right; rw [if_neg h1, if_neg h3]; exact ⟨h3, h1, rfl⟩
theorem cls_le (f b : Nat) : clsN f b ≤ 9 := by
  rcases cls_cases f b with ⟨_, _, h⟩ | ⟨_, _, h⟩ | ⟨_, _, h⟩ | ⟨_, _, h⟩ | ⟨_, _, h⟩ <;> rw [h]
  · cases negN f b <;> decide
  · cases (b % 2 ^ (pF f - 1)).testBit (pF f - 2) <;> decide
  · cases negN f b <;> decide
  · cases negN f b <;> decide
  · cases negN f b <;> decide

/-- A significand and an exponent as the format has them. -/
structure Can (f c : Nat) (q : Int) : Prop where
  pos : c ≠ 0
  lt : c < 2 ^ pF f
  ge : eminI f - pF f + 1 ≤ q
  le : q ≤ (eF f : Int) - pF f + 1
  norm : 2 ^ (pF f - 1) ≤ c ∨ q = eminI f - pF f + 1
/-- A finite number that is not 0. -/
def Fin0 (f b : Nat) : Prop := clsN f b = 1 ∨ clsN f b = 6 ∨ clsN f b = 2 ∨ clsN f b = 5
theorem pow_pred (f : Nat) (hf : f < 4) : 2 ^ pF f = 2 ^ (pF f - 1) + 2 ^ (pF f - 1) := by
  obtain ⟨-, -, -, -, -, -, h, -⟩ := formK f hf
  rw [show pF f = (pF f - 1) + 1 by omega, Nat.pow_succ]; simp; omega
theorem can_of (f b : Nat) (h : fitsB f b = true) (hc : Fin0 f b) : Can f (sigN f b) (xpN f b) ∧ encN f (negN f b) (sigN f b) (xpN f b) = b := by
  obtain ⟨hf, hb⟩ := (fits_iff f b).1 h
  obtain ⟨h1, h2, h3, h4, h5, h6, h7, h8⟩ := formK f hf
  have hp := pow_pred f hf
  have ht := Nat.mod_lt b (two_pos (pF f - 1))
  have hm := mkN_of f b h
  have hx := expN_lt f b hf
  unfold Fin0 at hc
  rcases cls_cases f b with ⟨e1, e2, e3⟩ | ⟨e1, e2, e3⟩ | ⟨e1, e2, e3⟩ | ⟨e1, e2, e3⟩ | ⟨e1, e2, e3⟩
  · exfalso; rw [e3] at hc; revert hc; cases negN f b <;> decide
  · exfalso; rw [e3] at hc; revert hc; cases (b % 2 ^ (pF f - 1)).testBit (pF f - 2) <;> decide
  · exfalso; rw [e3] at hc; revert hc; cases negN f b <;> decide
  · have c1 : ¬ (clsN f b = 1 ∨ clsN f b = 6) := by rw [e3]; cases negN f b <;> decide
    have c2 : clsN f b = 2 ∨ clsN f b = 5 := by rw [e3]; cases negN f b <;> decide
    unfold sigN xpN
    rw [if_neg c1, if_pos c2, if_neg c1, if_pos c2, e1]
    refine ⟨⟨e2, by omega, by omega, by omega, Or.inr (by omega)⟩, ?_⟩
    unfold mkN at hm
    unfold encN negN
    rw [e1, Nat.zero_mul, Nat.zero_add] at hm
    rw [show (((0 : Nat) : Int) + eminI f - (pF f : Nat) + 1 - eminI f + (pF f : Nat) - 1).toNat = 0 by omega, Nat.zero_mul, Nat.zero_add]
    exact hm
  · have c1 : clsN f b = 1 ∨ clsN f b = 6 := by rw [e3]; cases negN f b <;> decide
    unfold sigN xpN
    rw [if_pos c1, if_pos c1]
    refine ⟨⟨by have := two_pos (pF f - 1); omega, by omega, by omega, by omega, Or.inl (by omega)⟩, ?_⟩
    unfold mkN at hm
    unfold encN negN
    rw [show ((expN f b : Int) - 1 + eminI f - (pF f : Nat) + 1 - eminI f + (pF f : Nat) - 1).toNat = expN f b - 1 by omega]
    have e4 : expN f b * 2 ^ (pF f - 1) = (expN f b - 1) * 2 ^ (pF f - 1) + 2 ^ (pF f - 1) := by
      obtain ⟨k, hk⟩ : ∃ k, expN f b = k + 1 := ⟨expN f b - 1, by omega⟩
      rw [hk, Nat.add_sub_cancel, Nat.add_mul]; omega
    omega
/-- The encoding of a number that the format has is of that number. -/
theorem enc_can (f c : Nat) (q : Int) (neg : Bool) (hf : f < 4) (h : Can f c q) :
    fitsB f (encN f neg c q) = true ∧ negN f (encN f neg c q) = neg ∧ sigN f (encN f neg c q) = c ∧ xpN f (encN f neg c q) = q ∧ Fin0 f (encN f neg c q) := by
  obtain ⟨h1, h2, h3, h4, h5, h6, h7, h8⟩ := formK f hf
  have hp := pow_pred f hf
  have hlt := h.lt
  have hge := h.ge
  have hle := h.le
  have hpos := h.pos
  by_cases hn : 2 ^ (pF f - 1) ≤ c
  · obtain ⟨e, he⟩ : ∃ e : Nat, (e : Int) = q - eminI f + pF f := ⟨(q - eminI f + pF f).toNat, by omega⟩
    have hmk : encN f neg c q = mkN f neg e (c - 2 ^ (pF f - 1)) := by
      unfold encN mkN
      rw [show (q - eminI f + pF f - 1).toNat = e - 1 by omega]
      have e4 : e * 2 ^ (pF f - 1) = (e - 1) * 2 ^ (pF f - 1) + 2 ^ (pF f - 1) := by
        obtain ⟨k, hk⟩ : ∃ k, e = k + 1 := ⟨e - 1, by omega⟩
        rw [hk, Nat.add_sub_cancel, Nat.add_mul]; omega
      omega
    rw [hmk]
    obtain ⟨m1, m2, m3, m4⟩ := mkN_fields f hf neg e (c - 2 ^ (pF f - 1)) (by omega) (by omega)
    rcases cls_cases f (mkN f neg e (c - 2 ^ (pF f - 1))) with ⟨e1, e2, e3⟩ | ⟨e1, e2, e3⟩ | ⟨e1, e2, e3⟩ | ⟨e1, e2, e3⟩ | ⟨e1, e2, e3⟩
    · omega
    · omega
    · omega
    · omega
    · have hng : negN f (mkN f neg e (c - 2 ^ (pF f - 1))) = neg := m3
      rw [hng] at e3
      have c1 : clsN f (mkN f neg e (c - 2 ^ (pF f - 1))) = 1 ∨ clsN f (mkN f neg e (c - 2 ^ (pF f - 1))) = 6 := by rw [e3]; cases neg <;> decide
      refine ⟨m4, hng, ?_, ?_, ?_⟩
      · unfold sigN; rw [if_pos c1, m1]; omega
      · unfold xpN; rw [if_pos c1, m2]; omega
      · unfold Fin0; rcases c1 with c1 | c1 <;> rw [c1] <;> decide
  · have hq : q = eminI f - pF f + 1 := h.norm.resolve_left hn
    have hmk : encN f neg c q = mkN f neg 0 c := by
      unfold encN mkN
      rw [show (q - eminI f + pF f - 1).toNat = 0 by omega]
    rw [hmk]
    obtain ⟨m1, m2, m3, m4⟩ := mkN_fields f hf neg 0 c (by omega) (by omega)
    rcases cls_cases f (mkN f neg 0 c) with ⟨e1, e2, e3⟩ | ⟨e1, e2, e3⟩ | ⟨e1, e2, e3⟩ | ⟨e1, e2, e3⟩ | ⟨e1, e2, e3⟩
    · omega
    · omega
    · omega
    · have hng : negN f (mkN f neg 0 c) = neg := m3
      rw [hng] at e3
      have c1 : ¬ (clsN f (mkN f neg 0 c) = 1 ∨ clsN f (mkN f neg 0 c) = 6) := by rw [e3]; cases neg <;> decide
      have c2 : clsN f (mkN f neg 0 c) = 2 ∨ clsN f (mkN f neg 0 c) = 5 := by rw [e3]; cases neg <;> decide
      refine ⟨m4, hng, ?_, ?_, ?_⟩
      · unfold sigN; rw [if_neg c1, if_pos c2, m1]
      · unfold xpN; rw [if_neg c1, if_pos c2, m2]; omega
      · unfold Fin0; rcases c2 with c1 | c1 <;> rw [c1] <;> decide
    · omega

/-- What the format has is delivered as it is. -/
theorem pack_can (f m c : Nat) (q : Int) (neg : Bool) (hf : f < 4) (h : Can f c q) : packB f m neg c q false = (encN f neg c q, 0) := by
  obtain ⟨h1, h2, h3, h4, h5, h6, h7, h8⟩ := formK f hf
  have hlt := h.lt
  have hge := h.ge
  have hle := h.le
  have hpos := h.pos
  have l1 := (lenN_le c (pF f)).2 hlt
  have l2 := lenN_pos c hpos
  have hat : atN f (lenN c - 1 + q) = q := by
    unfold atN
    rcases h.norm with hn | hn
    · have : lenN c = pF f := lenN_unique c (pF f) hn hlt (by omega)
      omega
    · rcases Nat.lt_or_ge c (2 ^ (pF f - 1)) with hc | hc
      · have := (lenN_le c (pF f - 1)).2 hc
        omega
      · have : lenN c = pF f := lenN_unique c (pF f) hc hlt (by omega)
        omega
  have hg : gridN m neg c q false q = (c, true) := by
    unfold gridN
    rw [if_pos (by omega), show (q - q).toNat = 0 by omega, Nat.pow_zero, Nat.mul_one]; rfl
  unfold packB
  rw [hat, hg, if_neg (by omega), if_neg (by simp only []; omega)]
  rfl
/-- A number that is exactly one of the format's. -/
theorem pack_exact (f m c s : Nat) (q e : Int) (neg : Bool) (hf : f < 4) (h : Can f c q) (hs : (e ≤ q ∧ s = c * 2 ^ (q - e).toNat) ∨ (q ≤ e ∧ c = s * 2 ^ (e - q).toNat)) :
    packB f m neg s e false = (encN f neg c q, 0) := by
  rw [← pack_can f m c q neg hf h]
  rcases hs with ⟨hle, rfl⟩ | ⟨hle, hs⟩
  · symm
    exact pack_finer ⟨hle, by rw [Nat.mul_div_cancel _ (two_pos _)], by rw [Nat.mul_mod_left]; rfl⟩ f m neg h.pos (fun h => by cases h)
  · have hpos := h.pos
    refine pack_finer ⟨hle, by rw [hs, Nat.mul_div_cancel _ (two_pos _)], by rw [hs, Nat.mul_mod_left]; rfl⟩ f m neg ?_ (fun h => by cases h)
    intro h0; rw [h0, Nat.zero_mul] at hs; exact hpos hs
end Go.Proofs.YtjgonofkklpgaaaDoor
