/- Part 55 of the proof. -/
import Derived.Test.YtgmhmpflmgfcdaaGreatDoorHq4
import Derived.Test.YtgmhmpflmgfcdaaGreatDoorHq5
import Derived.Test.YtgmhmpflmgfcdaaGreatDoorHq37
import Derived.Test.YtgmhmpflmgfcdaaGreatDoorHq38
import Derived.Test.YtgmhmpflmgfcdaaGreatDoorHq47
import Derived.Test.YtgmhmpflmgfcdaaGreatDoorHq54
set_option linter.unusedSimpArgs false
set_option linter.unusedVariables false
set_option linter.unnecessarySimpa false
set_option maxRecDepth 100000
set_option maxHeartbeats 3200000
namespace Go.Proofs.YtgmhmpflmgfcdaaGreatDoor
open Go.RowKit
theorem Sl.below {w w' : World} {v : Value} {l : List Nat} (h : Sl w v l) (hb : Below w.heap.size w w') : Sl w' v l := by
 rcases h with h | ⟨g, o, n, c, h1, h2, h3, h4, h5⟩
 ·exact Or.inl h
 ·exact Or.inr ⟨g, o, n, c, h1, h2, h3, h4, h5.below hb h5.lt⟩
theorem Sl.shape {w : World} {v : Value} {l : List Nat} (h : Sl w v l) : ∃ sa c, v = .slice sa l.length c := by
 rcases h with ⟨sa, c, rfl, rfl, -⟩ | ⟨g, o, n, c, rfl, -, -, hn, -⟩
 ·exact ⟨sa, c, rfl⟩
 ·exact ⟨_, c, by rw [hn]⟩
def dotV (F : Nat → Nat → Nat → Nat × Nat × Int) (f m : Nat) (l r : List Nat) : Nat × Int × Int :=
 if (decide (m < 5) && decide (f < 4)) = true then (if l.length = r.length then (if (allB f l && allB f r) = true then ((dotF F (l.zip r)).1, (dotF F (l.zip r)).2, 0) else (0, 0, 2)) else (0, 0, 2)) else (0, 0, 2)
theorem fmaDot_any (f m : Nat) (l r : List Nat) (u v : Value) (w : World) (hf : f < 256) (hm : m < 256) (hl : ∀ b ∈ l, b < 2 ^ (64 * 2)) (hr : ∀ b ∈ r, b < 2 ^ (64 * 2)) (h60 : l.length ≤ 60) (hT : Tab w) (hS : Sl w u l) (hU : Sl w v r) :
  CR_ 36 #[.int .u8 f, .int .u8 m, u, v] w (tellS (dotV (fmaN f m) f m l r)) := by
 obtain ⟨-, -, cO⟩ := fmaOpen0_any f m hf hm
 unfold dotV
 cases ho : (decide (m < 5) && decide (f < 4))
 ·rw [ho] at cO
  rw [if_neg (by decide)]
  obtain ⟨sa, c, rfl⟩ := hS.shape
  obtain ⟨sb, d, rfl⟩ := hU.shape
  exact fmaDot_bad f m _ c _ d sa sb w hT cO
 rw [ho] at cO
 rw [if_pos rfl]
 by_cases hne : l.length = r.length
 case neg =>
  rw [if_neg hne]
  obtain ⟨sa, c, rfl⟩ := hS.shape
  obtain ⟨sb, d, rfl⟩ := hU.shape
  exact fmaDot_ne f m _ c _ d sa sb w hT (by rw [beq_eq_false_iff_ne]; omega) (by omega) cO
 rw [if_pos hne]
 rcases hS with ⟨sa, c, rfl, rfl, -⟩ | ⟨g, o, n, c, rfl, h0, -, hn, hA⟩
 ·rcases hU with ⟨sb, d, rfl, rfl, -⟩ | ⟨h, p, k, d, rfl, h0', -, hm', hB⟩
  ·exact fmaDot_nil f m c d sa sb w hT cO
  ·rw [List.length_nil, hm'] at hne; omega
 ·rcases hU with ⟨sb, d, rfl, rfl, -⟩ | ⟨h, p, k, d, rfl, h0', -, hm', hB⟩
  ·rw [List.length_nil, hn] at hne; omega
  ·obtain rfl : n = k := by omega
   refine (fmaDot_some (fmaN f m) f m l r g o h p n c d w hT hA hB (Lib.hid hl) (Lib.hid hr) (Lib.hid hn) (Lib.hid hm') (by omega) cO (fun b w hb => shapeFits_any f b w hb) (fun a b c w ha hb hc hT => fmaMulAdd_any f m a b c w hf hm ha hb hc hT)).mono fun e w' h => ⟨h.1.trans ?_, h.2⟩
   split <;> rfl
theorem r11FitsL_any (f m : Nat) (l : List Nat) (v : Value) (w : World) (hl : ∀ b ∈ l, b < 2 ^ (64 * 2)) (h60 : l.length ≤ 60) (hS : Sl w v l) :
  CR_ 82 #[.int .u8 f, .int .u8 m, v] w (.bool (decide (f < 4) && decide (m < 5) && allB f l)) := by
 rcases hS with ⟨sa, c, rfl, rfl, -⟩ | ⟨g, o, n, c, rfl, h0, -, hn, hB⟩
 ·rw [show allB f [] = true from rfl, Bool.and_true]; exact r11FitsL_nil f m c sa w
 ·exact r11FitsL_some f m l g o n c w hB (Lib.hid hl) (Lib.hid hn) (by omega)
theorem r15Dot_any (f m : Nat) (l r : List Nat) (u v : Value) (w : World) (hl : ∀ b ∈ l, b < 2 ^ (64 * 2)) (hr : ∀ b ∈ r, b < 2 ^ (64 * 2)) (h60 : l.length ≤ 60) (h61 : r.length ≤ 60) (hS : Sl w u l) (hU : Sl w v r) :
  CR_ 37 #[.int .u8 f, .int .u8 m, u, v] w (tellS (dotV (fmaN f m) f m l r)) := by
 have cX := fun (w' : World) (hb : Below w.heap.size w w') => r11FitsL_any f m l u w' hl h60 (hS.below hb)
 have cY := fun (w' : World) (hb : Below w.heap.size w w') => r11FitsL_any f m r v w' hr h61 (hU.below hb)
 unfold dotV
 rw [Bool.and_comm (decide (m < 5))]
 cases ho : (decide (f < 4) && decide (m < 5))
 ·rw [ho, Bool.false_and] at cX
  rw [if_neg (by decide)]
  obtain ⟨sa, c, rfl⟩ := hS.shape
  obtain ⟨sb, d, rfl⟩ := hU.shape
  exact r15Dot_no1 f m _ c _ d sa sb w cX
 rw [ho, Bool.true_and] at cX cY
 rw [if_pos rfl]
 cases ha : allB f l
 ·rw [ha] at cX
  obtain ⟨sa, c, rfl⟩ := hS.shape
  obtain ⟨sb, d, rfl⟩ := hU.shape
  rw [Bool.false_and, if_neg (show ¬ false = true by decide), ite_self]
  exact r15Dot_no1 f m _ c _ d sa sb w cX
 rw [ha] at cX
 cases hb : allB f r
 ·rw [hb] at cY
  obtain ⟨sa, c, rfl⟩ := hS.shape
  obtain ⟨sb, d, rfl⟩ := hU.shape
  rw [Bool.and_false, if_neg (show ¬ false = true by decide), ite_self]
  exact r15Dot_no2 f m _ c _ d sa sb w cX cY
 rw [hb] at cY
 by_cases hne : l.length = r.length
 case neg =>
  rw [if_neg hne]
  obtain ⟨sa, c, rfl⟩ := hS.shape
  obtain ⟨sb, d, rfl⟩ := hU.shape
  exact r15Dot_ne f m _ c _ d sa sb w (by rw [beq_eq_false_iff_ne]; omega) (by omega) cX cY
 rw [if_pos hne, Bool.and_self, if_pos rfl]
 rcases hS with ⟨sa, c, rfl, rfl, -⟩ | ⟨g, o, n, c, rfl, h0, -, hn, hA⟩
 ·rcases hU with ⟨sb, d, rfl, rfl, -⟩ | ⟨h, p, k, d, rfl, h0', -, hm', hB⟩
  ·exact r15Dot_nil f m c d sa sb w cX cY
  ·rw [List.length_nil, hm'] at hne; omega
 ·rcases hU with ⟨sb, d, rfl, rfl, -⟩ | ⟨h, p, k, d, rfl, h0', -, hm', hB⟩
  ·rw [List.length_nil, hn] at hne; omega
  ·obtain rfl : n = k := by omega
   exact r15Dot_some (fmaN f m) f m l r g o h p n c d w hA hB (Lib.hid hl) (Lib.hid hr) (Lib.hid hn) (Lib.hid hm') (by omega) cX cY (fun a b c w ha hb hc => r15MulAdd_any f m a b c w ha hb hc)
theorem fmaDots_long1 (f m n c k d : Nat) (sa sb : Option Addr) (w0 : World) (hT : Tab w0) (hd : decide ((40 : Int) < (n : Int)) = true) (cV : CT_ 35 #[] (.bool true))  :
  CR_ 10 #[.int .u8 f, .int .u8 m, .slice sa n c, .slice sb k d] w0 (.bool true) := by
 have H := Own.start w0
 have HT := Lib.hid hT
 clear hT
 go_enter Tryz.func10, Tryz.ntmps10
 exact walk4
theorem fmaDots_long2 (f m n c k d : Nat) (sa sb : Option Addr) (w0 : World) (hT : Tab w0) (hd : decide ((40 : Int) < (n : Int)) = false) (hd2 : decide ((40 : Int) < (k : Int)) = true) (cV : CT_ 35 #[] (.bool true))  :
  CR_ 10 #[.int .u8 f, .int .u8 m, .slice sa n c, .slice sb k d] w0 (.bool true) := by
 have H := Own.start w0
 have HT := Lib.hid hT
 clear hT
 go_enter Tryz.func10, Tryz.ntmps10
 exact walk4
theorem fmaDots_ee (f m x : Nat) (fl e0 : Int) (w0 : World) (hT : Tab w0) (c : Nat) (sa : Option Addr) (h0 : sa = none → c = 0) (d : Nat) (sb : Option Addr) (h1 : sb = none → d = 0) (PA : Sl w0 (.slice sa 0 c) []) (PB : Sl w0 (.slice sb 0 d) []) (cV : CT_ 35 #[] (.bool true)) (cA : ∀ w u v, Tab w → Sl w u [] → Sl w v [] → CR_ 36 #[.int .u8 f, .int .u8 m, u, v] w (.tuple #[BV x, .int .u8 fl, .int .i64 e0])) (cR : ∀ w u v, Sl w u [] → Sl w v [] → CR_ 37 #[.int .u8 f, .int .u8 m, u, v] w (.tuple #[BV x, .int .u8 fl, .int .i64 e0])) :
  CR_ 10 #[.int .u8 f, .int .u8 m, .slice sa 0 c, .slice sb 0 d] w0 (.bool true) := by
 have H := Own.start w0
 have HT := Lib.hid hT
 clear hT
 go_enter Tryz.func10, Tryz.ntmps10
 go_wp2_with (first
  | ((with_reducible refine g15_ rfl rfl ?_); refine H.xa ?_; (intro gx w H; simp only [Act.put, q1_, q2_, q3_]))
  | ((with_reducible refine g14_ rfl rfl ?_); refine H.xa ?_; (intro gy w H; simp only [Act.put, q1_, q2_, q3_]))
  | ((with_reducible refine g0_ rfl ?_); refine H.xb ?_; (intro g w H; simp only [Act.put, q1_, q2_, q3_]))
  | ((with_reducible refine g1_ rfl ?_); refine H.xa ?_; (intro g w H; simp only [Act.put, q1_, q2_, q3_]))
  | ((with_reducible refine g2_ rfl ?_); (first | refine H.xl ?_ | refine H.xm ?_); simp only [Act.put, q1_, q2_, q3_])
  | ((with_reducible refine g3_ rfl ?_); (first | refine H.xs ?_ | refine H.xt ?_); (intro w H; simp only [Act.put]))
  | ((with_reducible show wpList _ _ _ (⟨_, .call _, _, _, _, _⟩ :: _) _ _); refine app_empty rfl rfl rfl rfl h0 ?_; intro w1 bel; have SA : Sl w1 (.slice none 0 0) [] := Or.inl ⟨none, 0, rfl, rfl, fun _ => rfl⟩; have BEL := H.below.trans (bel.mono H.below.size); have HT1 := Lib.hid (HT.out.below BEL); have QA := PA.below BEL; have QB := PB.below BEL; clear H bel; have H := Own.start w1; simp only [Act.put, q1_, q2_, q3_])
  | ((with_reducible show wpList _ _ _ (⟨_, .call _, _, _, _, _⟩ :: _) _ _); refine app_empty rfl rfl rfl rfl h1 ?_; intro w2 bel; have SB : Sl w2 (.slice none 0 0) [] := Or.inl ⟨none, 0, rfl, rfl, fun _ => rfl⟩; have BEL2 := H.below.trans (bel.mono H.below.size); have HT2 := Lib.hid (HT1.out.below BEL2); have RA := QA.below BEL2; have RB := QB.below BEL2; have TA := SA.below BEL2; clear H bel; have H := Own.start w2; simp only [Act.put, q1_, q2_, q3_])
  | (go_at_call 36; (with_reducible refine H.kc (cA _ _ _ (HT2.out.below H.below) (TA.below H.below) (SB.below H.below)) ?_; clear H; intro w H))
  | (go_at_call 37; (with_reducible refine H.kc (cR _ _ _ (RA.below H.below) (RB.below H.below)) ?_; clear H; intro w H))
  )
 go_loopw [17] (fun i wr => i = .int .i64 0 ∧ Own w2 wr [(gy, 27, bc x), (gx, 27, bc x)]) (fun i _ => 1)
 case atStart => exact ⟨rfl, H⟩
 case round =>
  clear H
  obtain ⟨rfl, H⟩ := hrel
  go_wp2_with (first
  | ((with_reducible refine g0_ rfl ?_); refine H.xb ?_; (intro g w H; simp only [Act.put, q1_, q2_, q3_]))
  | ((with_reducible refine g1_ rfl ?_); refine H.xa ?_; (intro g w H; simp only [Act.put, q1_, q2_, q3_]))
  | ((with_reducible refine g2_ rfl ?_); (first | refine H.xl ?_ | refine H.xm ?_); simp only [Act.put, q1_, q2_, q3_])
  | ((with_reducible refine g3_ rfl ?_); (first | refine H.xs ?_ | refine H.xt ?_); (intro w H; simp only [Act.put]))
  )
  go_loopw [18] (fun i wr => i = .int .i64 0 ∧ Own w2 wr [(gy, 27, bc x), (gx, 27, bc x)]) (fun i _ => 1)
  case atStart => exact ⟨rfl, H⟩
  case round =>
   clear H
   obtain ⟨rfl, H⟩ := hrel
   go_wp2_with (first
  | ((with_reducible refine g0_ rfl ?_); refine H.xb ?_; (intro g w H; simp only [Act.put, q1_, q2_, q3_]))
  | ((with_reducible refine g1_ rfl ?_); refine H.xa ?_; (intro g w H; simp only [Act.put, q1_, q2_, q3_]))
  | ((with_reducible refine g2_ rfl ?_); (first | refine H.xl ?_ | refine H.xm ?_); simp only [Act.put, q1_, q2_, q3_])
  | ((with_reducible refine g3_ rfl ?_); (first | refine H.xs ?_ | refine H.xt ?_); (intro w H; simp only [Act.put]))
  | (go_at_call 35; (with_reducible refine H.kc (cV _ (HT2.out.below H.below)) ?_; clear H; intro w H))
  )
   all_goals
    go_ret
    exact ⟨by simp, BEL.trans ((BEL2.trans (H.below.mono BEL2.size)).mono BEL.size)⟩
theorem fmaDots_es (f m x : Nat) (fl e0 : Int) (w0 : World) (hT : Tab w0) (c : Nat) (sa : Option Addr) (h0 : sa = none → c = 0) (r : List Nat) (h p k d : Nat) (hB : Bls w0 h p r) (hk : Hid (r.length = k)) (h1 : 0 < k) (hsk : k ≤ 60) (hdk : decide ((40 : Int) < (k : Int)) = false) (PA : Sl w0 (.slice sa 0 c) []) (PB : Sl w0 (.slice (some ⟨h, p, none⟩) k d) r) (cV : CT_ 35 #[] (.bool true)) (cA : ∀ w u v, Tab w → Sl w u [] → Sl w v r → CR_ 36 #[.int .u8 f, .int .u8 m, u, v] w (.tuple #[BV x, .int .u8 fl, .int .i64 e0])) (cR : ∀ w u v, Sl w u [] → Sl w v r → CR_ 37 #[.int .u8 f, .int .u8 m, u, v] w (.tuple #[BV x, .int .u8 fl, .int .i64 e0])) :
  CR_ 10 #[.int .u8 f, .int .u8 m, .slice sa 0 c, .slice (some ⟨h, p, none⟩) k d] w0 (.bool true) := by
 have H := Own.start w0
 have HT := Lib.hid hT
 clear hT
 go_enter Tryz.func10, Tryz.ntmps10
 go_wp2_with (first
  | ((with_reducible refine g15_ rfl rfl ?_); refine H.xa ?_; (intro gx w H; simp only [Act.put, q1_, q2_, q3_]))
  | ((with_reducible refine g14_ rfl rfl ?_); refine H.xa ?_; (intro gy w H; simp only [Act.put, q1_, q2_, q3_]))
  | ((with_reducible refine g0_ rfl ?_); refine H.xb ?_; (intro g w H; simp only [Act.put, q1_, q2_, q3_]))
  | ((with_reducible refine g1_ rfl ?_); refine H.xa ?_; (intro g w H; simp only [Act.put, q1_, q2_, q3_]))
  | ((with_reducible refine g2_ rfl ?_); (first | refine H.xl ?_ | refine H.xm ?_); simp only [Act.put, q1_, q2_, q3_])
  | ((with_reducible refine g3_ rfl ?_); (first | refine H.xs ?_ | refine H.xt ?_); (intro w H; simp only [Act.put]))
  | ((with_reducible show wpList _ _ _ (⟨_, .call _, _, _, _, _⟩ :: _) _ _); refine app_empty rfl rfl rfl rfl h0 ?_; intro w1 bel; have SA : Sl w1 (.slice none 0 0) [] := Or.inl ⟨none, 0, rfl, rfl, fun _ => rfl⟩; have BEL := H.below.trans (bel.mono H.below.size); have HT1 := Lib.hid (HT.out.below BEL); have QA := PA.below BEL; have QB := PB.below BEL; clear H bel; have H := Own.start w1; simp only [Act.put, q1_, q2_, q3_])
  | ((with_reducible show wpList _ _ _ (⟨_, .call _, _, _, _, _⟩ :: _) _ _); refine app_bits rfl rfl rfl rfl h1 hsk hk.out ((hB.below BEL hB.lt).below H.below (hB.below BEL hB.lt).lt) ?_; intro gj cj w2 bel hJ hB2 hc2; have SB : Sl w2 (.slice (some ⟨gj, 0, none⟩) k cj) r := Or.inr ⟨gj, 0, k, cj, rfl, h1, hc2, hk.out, hJ⟩; have BEL2 := H.below.trans (bel.mono H.below.size); have HT2 := Lib.hid (HT1.out.below BEL2); have RA := QA.below BEL2; have RB := QB.below BEL2; have TA := SA.below BEL2; clear H bel; have H := Own.start w2; simp only [Act.put, q1_, q2_, q3_])
  | (go_at_call 36; (with_reducible refine H.kc (cA _ _ _ (HT2.out.below H.below) (TA.below H.below) (SB.below H.below)) ?_; clear H; intro w H))
  | (go_at_call 37; (with_reducible refine H.kc (cR _ _ _ (RA.below H.below) (RB.below H.below)) ?_; clear H; intro w H))
  )
 go_loopw [17] (fun i wr => i = .int .i64 0 ∧ Own w2 wr [(gy, 27, bc x), (gx, 27, bc x)]) (fun i _ => 1)
 case atStart => exact ⟨rfl, H⟩
 case round =>
  clear H
  obtain ⟨rfl, H⟩ := hrel
  go_wp2_with (first
  | ((with_reducible refine g0_ rfl ?_); refine H.xb ?_; (intro g w H; simp only [Act.put, q1_, q2_, q3_]))
  | ((with_reducible refine g1_ rfl ?_); refine H.xa ?_; (intro g w H; simp only [Act.put, q1_, q2_, q3_]))
  | ((with_reducible refine g2_ rfl ?_); (first | refine H.xl ?_ | refine H.xm ?_); simp only [Act.put, q1_, q2_, q3_])
  | ((with_reducible refine g3_ rfl ?_); (first | refine H.xs ?_ | refine H.xt ?_); (intro w H; simp only [Act.put]))
  )
  go_loopw [18] (fun i wr => ∃ z : Nat, z ≤ k ∧ i = .int .i64 z ∧ Own w2 wr [(gy, 27, bc x), (gx, 27, bc x)]) (fun i _ => k + 1 - (intOf i).toNat)
  case atStart => exact ⟨0, by omega, rfl, H⟩
  case round =>
   clear H
   obtain ⟨z, hqz, rfl, H⟩ := hrel
   by_cases hltz : z < k
   ·obtain ⟨bz, hb⟩ : ∃ b, r[z]? = some b := ⟨_, List.getElem?_eq_getElem (by rw [hk.out]; exact hltz)⟩
    have hdz : decide ((z : Int) < (k : Int)) = true := by simp; omega
    go_wp2_with (first
  | ((with_reducible refine g0_ rfl ?_); refine H.xb ?_; (intro g w H; simp only [Act.put, q1_, q2_, q3_]))
  | ((with_reducible refine g1_ rfl ?_); refine H.xa ?_; (intro g w H; simp only [Act.put, q1_, q2_, q3_]))
  | ((with_reducible refine g2_ rfl ?_); (first | refine H.xl ?_ | refine H.xm ?_); simp only [Act.put, q1_, q2_, q3_])
  | ((with_reducible refine g3_ rfl ?_); (first | refine H.xs ?_ | refine H.xt ?_); (intro w H; simp only [Act.put]))
  | ((with_reducible show Code.wp _ (.region 15 _ true) _ _ _); refine H.heldSub rfl (List.Sublist.refl _) ?_; intro H; refine H.zr 0 ?_; (try simp only [Act.put, q1_, q2_, q3_]); (try simp only [q4_, q5_, q6_]); refine H.zr 1 ?_; (try simp only [Act.put, q1_, q2_, q3_]); (try simp only [q4_, q5_, q6_]); refine H.zr 2 ?_ (hv := by intro w; go_simp; first | with_reducible rfl | (rw [if_pos (by omega)])); (try simp only [Act.put, q1_, q2_, q3_]); (try simp only [q4_, q5_, q6_]); refine H.zle 3 hJ hb ?_; (try simp only [Act.put, q1_, q2_, q3_]); (try simp only [q4_, q5_, q6_]); refine H.zr 4 ?_; (try simp only [Act.put, q1_, q2_, q3_]); (try simp only [q4_, q5_, q6_]); refine H.zr 5 ?_; (try simp only [Act.put, q1_, q2_, q3_]); (try simp only [q4_, q5_, q6_]); refine H.zr 6 ?_ (hv := by intro w; go_simp; first | with_reducible rfl | (rw [if_pos (by omega)])); (try simp only [Act.put, q1_, q2_, q3_]); (try simp only [q4_, q5_, q6_]); refine H.zle 7 hB2 hb ?_; (try simp only [Act.put, q1_, q2_, q3_]); (try simp only [q4_, q5_, q6_]); refine H.zr 8 ?_; (try simp only [Act.put, q1_, q2_, q3_]); (try simp only [q4_, q5_, q6_]); refine wpAnyH_done (by kernel_rfl) ?_ _)
  )
    all_goals
     go_roundw
     case rel => exact ⟨z + 1, by omega, by go_num, H⟩
     case measure => first | (simp [intOf]; omega) | simp [intOf]
   ·obtain rfl : z = k := by omega
    have hdz : decide ((z : Int) < (z : Int)) = false := by simp
    go_wp2_with (first
  | ((with_reducible refine g0_ rfl ?_); refine H.xb ?_; (intro g w H; simp only [Act.put, q1_, q2_, q3_]))
  | ((with_reducible refine g1_ rfl ?_); refine H.xa ?_; (intro g w H; simp only [Act.put, q1_, q2_, q3_]))
  | ((with_reducible refine g2_ rfl ?_); (first | refine H.xl ?_ | refine H.xm ?_); simp only [Act.put, q1_, q2_, q3_])
  | ((with_reducible refine g3_ rfl ?_); (first | refine H.xs ?_ | refine H.xt ?_); (intro w H; simp only [Act.put]))
  | (go_at_call 35; (with_reducible refine H.kc (cV _ (HT2.out.below H.below)) ?_; clear H; intro w H))
  )
    all_goals
     go_ret
     exact ⟨by simp, BEL.trans ((BEL2.trans (H.below.mono BEL2.size)).mono BEL.size)⟩
theorem fmaDots_se (f m x : Nat) (fl e0 : Int) (w0 : World) (hT : Tab w0) (l : List Nat) (g o n c : Nat) (hA : Bls w0 g o l) (hn : Hid (l.length = n)) (h0 : 0 < n) (hsn : n ≤ 60) (hdn : decide ((40 : Int) < (n : Int)) = false) (d : Nat) (sb : Option Addr) (h1 : sb = none → d = 0) (PA : Sl w0 (.slice (some ⟨g, o, none⟩) n c) l) (PB : Sl w0 (.slice sb 0 d) []) (cV : CT_ 35 #[] (.bool true)) (cA : ∀ w u v, Tab w → Sl w u l → Sl w v [] → CR_ 36 #[.int .u8 f, .int .u8 m, u, v] w (.tuple #[BV x, .int .u8 fl, .int .i64 e0])) (cR : ∀ w u v, Sl w u l → Sl w v [] → CR_ 37 #[.int .u8 f, .int .u8 m, u, v] w (.tuple #[BV x, .int .u8 fl, .int .i64 e0])) :
  CR_ 10 #[.int .u8 f, .int .u8 m, .slice (some ⟨g, o, none⟩) n c, .slice sb 0 d] w0 (.bool true) := by
 have H := Own.start w0
 have HT := Lib.hid hT
 clear hT
 go_enter Tryz.func10, Tryz.ntmps10
 go_wp2_with (first
  | ((with_reducible refine g15_ rfl rfl ?_); refine H.xa ?_; (intro gx w H; simp only [Act.put, q1_, q2_, q3_]))
  | ((with_reducible refine g14_ rfl rfl ?_); refine H.xa ?_; (intro gy w H; simp only [Act.put, q1_, q2_, q3_]))
  | ((with_reducible refine g0_ rfl ?_); refine H.xb ?_; (intro g w H; simp only [Act.put, q1_, q2_, q3_]))
  | ((with_reducible refine g1_ rfl ?_); refine H.xa ?_; (intro g w H; simp only [Act.put, q1_, q2_, q3_]))
  | ((with_reducible refine g2_ rfl ?_); (first | refine H.xl ?_ | refine H.xm ?_); simp only [Act.put, q1_, q2_, q3_])
  | ((with_reducible refine g3_ rfl ?_); (first | refine H.xs ?_ | refine H.xt ?_); (intro w H; simp only [Act.put]))
  | ((with_reducible show wpList _ _ _ (⟨_, .call _, _, _, _, _⟩ :: _) _ _); refine app_bits rfl rfl rfl rfl h0 hsn hn.out (hA.below H.below hA.lt) ?_; intro gk ck w1 bel hK1 hA1 hc1; have SA : Sl w1 (.slice (some ⟨gk, 0, none⟩) n ck) l := Or.inr ⟨gk, 0, n, ck, rfl, h0, hc1, hn.out, hK1⟩; have BEL := H.below.trans (bel.mono H.below.size); have HT1 := Lib.hid (HT.out.below BEL); have QA := PA.below BEL; have QB := PB.below BEL; clear H bel; have H := Own.start w1; simp only [Act.put, q1_, q2_, q3_])
  | ((with_reducible show wpList _ _ _ (⟨_, .call _, _, _, _, _⟩ :: _) _ _); refine app_empty rfl rfl rfl rfl h1 ?_; intro w2 bel; have SB : Sl w2 (.slice none 0 0) [] := Or.inl ⟨none, 0, rfl, rfl, fun _ => rfl⟩; have BEL2 := H.below.trans (bel.mono H.below.size); have HT2 := Lib.hid (HT1.out.below BEL2); have RA := QA.below BEL2; have RB := QB.below BEL2; have TA := SA.below BEL2; have hK := hK1.below BEL2 hK1.lt; have hA2 := hA1.below BEL2 hA1.lt; clear H bel; have H := Own.start w2; simp only [Act.put, q1_, q2_, q3_])
  | (go_at_call 36; (with_reducible refine H.kc (cA _ _ _ (HT2.out.below H.below) (TA.below H.below) (SB.below H.below)) ?_; clear H; intro w H))
  | (go_at_call 37; (with_reducible refine H.kc (cR _ _ _ (RA.below H.below) (RB.below H.below)) ?_; clear H; intro w H))
  )
 go_loopw [17] (fun i wr => ∃ q : Nat, q ≤ n ∧ i = .int .i64 q ∧ Own w2 wr [(gy, 27, bc x), (gx, 27, bc x)]) (fun i _ => n + 1 - (intOf i).toNat)
 case atStart => exact ⟨0, by omega, rfl, H⟩
 case round =>
  clear H
  obtain ⟨q, hqq, rfl, H⟩ := hrel
  by_cases hltq : q < n
  ·obtain ⟨bq, ha⟩ : ∃ b, l[q]? = some b := ⟨_, List.getElem?_eq_getElem (by rw [hn.out]; exact hltq)⟩
   have hdq : decide ((q : Int) < (n : Int)) = true := by simp; omega
   go_wp2_with (first
  | ((with_reducible refine g0_ rfl ?_); refine H.xb ?_; (intro g w H; simp only [Act.put, q1_, q2_, q3_]))
  | ((with_reducible refine g1_ rfl ?_); refine H.xa ?_; (intro g w H; simp only [Act.put, q1_, q2_, q3_]))
  | ((with_reducible refine g2_ rfl ?_); (first | refine H.xl ?_ | refine H.xm ?_); simp only [Act.put, q1_, q2_, q3_])
  | ((with_reducible refine g3_ rfl ?_); (first | refine H.xs ?_ | refine H.xt ?_); (intro w H; simp only [Act.put]))
  | ((with_reducible show Code.wp _ (.region 10 _ true) _ _ _); refine H.heldSub rfl (List.Sublist.refl _) ?_; intro H; refine H.zr 0 ?_; (try simp only [Act.put, q1_, q2_, q3_]); (try simp only [q4_, q5_, q6_]); refine H.zr 1 ?_; (try simp only [Act.put, q1_, q2_, q3_]); (try simp only [q4_, q5_, q6_]); refine H.zr 2 ?_ (hv := by intro w; go_simp; first | with_reducible rfl | (rw [if_pos (by omega)])); (try simp only [Act.put, q1_, q2_, q3_]); (try simp only [q4_, q5_, q6_]); refine H.zle 3 hK ha ?_; (try simp only [Act.put, q1_, q2_, q3_]); (try simp only [q4_, q5_, q6_]); refine H.zr 4 ?_; (try simp only [Act.put, q1_, q2_, q3_]); (try simp only [q4_, q5_, q6_]); refine H.zr 5 ?_; (try simp only [Act.put, q1_, q2_, q3_]); (try simp only [q4_, q5_, q6_]); refine H.zr 6 ?_ (hv := by intro w; go_simp; first | with_reducible rfl | (rw [if_pos (by omega)])); (try simp only [Act.put, q1_, q2_, q3_]); (try simp only [q4_, q5_, q6_]); refine H.zle 7 hA2 ha ?_; (try simp only [Act.put, q1_, q2_, q3_]); (try simp only [q4_, q5_, q6_]); refine H.zr 8 ?_; (try simp only [Act.put, q1_, q2_, q3_]); (try simp only [q4_, q5_, q6_]); refine wpAnyH_done (by kernel_rfl) ?_ _)
  )
   all_goals
    go_roundw
    case rel => exact ⟨q + 1, by omega, by go_num, H⟩
    case measure => first | (simp [intOf]; omega) | simp [intOf]
  ·obtain rfl : q = n := by omega
   have hdq : decide ((q : Int) < (q : Int)) = false := by simp
   go_wp2_with (first
  | ((with_reducible refine g0_ rfl ?_); refine H.xb ?_; (intro g w H; simp only [Act.put, q1_, q2_, q3_]))
  | ((with_reducible refine g1_ rfl ?_); refine H.xa ?_; (intro g w H; simp only [Act.put, q1_, q2_, q3_]))
  | ((with_reducible refine g2_ rfl ?_); (first | refine H.xl ?_ | refine H.xm ?_); simp only [Act.put, q1_, q2_, q3_])
  | ((with_reducible refine g3_ rfl ?_); (first | refine H.xs ?_ | refine H.xt ?_); (intro w H; simp only [Act.put]))
  )
   go_loopw [18] (fun i wr => i = .int .i64 0 ∧ Own w2 wr [(gy, 27, bc x), (gx, 27, bc x)]) (fun i _ => 1)
   case atStart => exact ⟨rfl, H⟩
   case round =>
    clear H
    obtain ⟨rfl, H⟩ := hrel
    go_wp2_with (first
  | ((with_reducible refine g0_ rfl ?_); refine H.xb ?_; (intro g w H; simp only [Act.put, q1_, q2_, q3_]))
  | ((with_reducible refine g1_ rfl ?_); refine H.xa ?_; (intro g w H; simp only [Act.put, q1_, q2_, q3_]))
  | ((with_reducible refine g2_ rfl ?_); (first | refine H.xl ?_ | refine H.xm ?_); simp only [Act.put, q1_, q2_, q3_])
  | ((with_reducible refine g3_ rfl ?_); (first | refine H.xs ?_ | refine H.xt ?_); (intro w H; simp only [Act.put]))
  | (go_at_call 35; (with_reducible refine H.kc (cV _ (HT2.out.below H.below)) ?_; clear H; intro w H))
  )
    all_goals
     go_ret
     exact ⟨by simp, BEL.trans ((BEL2.trans (H.below.mono BEL2.size)).mono BEL.size)⟩
theorem fmaDots_ss (f m x : Nat) (fl e0 : Int) (w0 : World) (hT : Tab w0) (l : List Nat) (g o n c : Nat) (hA : Bls w0 g o l) (hn : Hid (l.length = n)) (h0 : 0 < n) (hsn : n ≤ 60) (hdn : decide ((40 : Int) < (n : Int)) = false) (r : List Nat) (h p k d : Nat) (hB : Bls w0 h p r) (hk : Hid (r.length = k)) (h1 : 0 < k) (hsk : k ≤ 60) (hdk : decide ((40 : Int) < (k : Int)) = false) (PA : Sl w0 (.slice (some ⟨g, o, none⟩) n c) l) (PB : Sl w0 (.slice (some ⟨h, p, none⟩) k d) r) (cV : CT_ 35 #[] (.bool true)) (cA : ∀ w u v, Tab w → Sl w u l → Sl w v r → CR_ 36 #[.int .u8 f, .int .u8 m, u, v] w (.tuple #[BV x, .int .u8 fl, .int .i64 e0])) (cR : ∀ w u v, Sl w u l → Sl w v r → CR_ 37 #[.int .u8 f, .int .u8 m, u, v] w (.tuple #[BV x, .int .u8 fl, .int .i64 e0])) :
  CR_ 10 #[.int .u8 f, .int .u8 m, .slice (some ⟨g, o, none⟩) n c, .slice (some ⟨h, p, none⟩) k d] w0 (.bool true) := by
 have H := Own.start w0
 have HT := Lib.hid hT
 clear hT
 go_enter Tryz.func10, Tryz.ntmps10
 go_wp2_with (first
  | ((with_reducible refine g15_ rfl rfl ?_); refine H.xa ?_; (intro gx w H; simp only [Act.put, q1_, q2_, q3_]))
  | ((with_reducible refine g14_ rfl rfl ?_); refine H.xa ?_; (intro gy w H; simp only [Act.put, q1_, q2_, q3_]))
  | ((with_reducible refine g0_ rfl ?_); refine H.xb ?_; (intro g w H; simp only [Act.put, q1_, q2_, q3_]))
  | ((with_reducible refine g1_ rfl ?_); refine H.xa ?_; (intro g w H; simp only [Act.put, q1_, q2_, q3_]))
  | ((with_reducible refine g2_ rfl ?_); (first | refine H.xl ?_ | refine H.xm ?_); simp only [Act.put, q1_, q2_, q3_])
  | ((with_reducible refine g3_ rfl ?_); (first | refine H.xs ?_ | refine H.xt ?_); (intro w H; simp only [Act.put]))
  | ((with_reducible show wpList _ _ _ (⟨_, .call _, _, _, _, _⟩ :: _) _ _); refine app_bits rfl rfl rfl rfl h0 hsn hn.out (hA.below H.below hA.lt) ?_; intro gk ck w1 bel hK1 hA1 hc1; have SA : Sl w1 (.slice (some ⟨gk, 0, none⟩) n ck) l := Or.inr ⟨gk, 0, n, ck, rfl, h0, hc1, hn.out, hK1⟩; have BEL := H.below.trans (bel.mono H.below.size); have HT1 := Lib.hid (HT.out.below BEL); have QA := PA.below BEL; have QB := PB.below BEL; clear H bel; have H := Own.start w1; simp only [Act.put, q1_, q2_, q3_])
  | ((with_reducible show wpList _ _ _ (⟨_, .call _, _, _, _, _⟩ :: _) _ _); refine app_bits rfl rfl rfl rfl h1 hsk hk.out ((hB.below BEL hB.lt).below H.below (hB.below BEL hB.lt).lt) ?_; intro gj cj w2 bel hJ hB2 hc2; have SB : Sl w2 (.slice (some ⟨gj, 0, none⟩) k cj) r := Or.inr ⟨gj, 0, k, cj, rfl, h1, hc2, hk.out, hJ⟩; have BEL2 := H.below.trans (bel.mono H.below.size); have HT2 := Lib.hid (HT1.out.below BEL2); have RA := QA.below BEL2; have RB := QB.below BEL2; have TA := SA.below BEL2; have hK := hK1.below BEL2 hK1.lt; have hA2 := hA1.below BEL2 hA1.lt; clear H bel; have H := Own.start w2; simp only [Act.put, q1_, q2_, q3_])
  | (go_at_call 36; (with_reducible refine H.kc (cA _ _ _ (HT2.out.below H.below) (TA.below H.below) (SB.below H.below)) ?_; clear H; intro w H))
  | (go_at_call 37; (with_reducible refine H.kc (cR _ _ _ (RA.below H.below) (RB.below H.below)) ?_; clear H; intro w H))
  )
 go_loopw [17] (fun i wr => ∃ q : Nat, q ≤ n ∧ i = .int .i64 q ∧ Own w2 wr [(gy, 27, bc x), (gx, 27, bc x)]) (fun i _ => n + 1 - (intOf i).toNat)
 case atStart => exact ⟨0, by omega, rfl, H⟩
 case round =>
  clear H
  obtain ⟨q, hqq, rfl, H⟩ := hrel
  by_cases hltq : q < n
  ·obtain ⟨bq, ha⟩ : ∃ b, l[q]? = some b := ⟨_, List.getElem?_eq_getElem (by rw [hn.out]; exact hltq)⟩
   have hdq : decide ((q : Int) < (n : Int)) = true := by simp; omega
   go_wp2_with (first
  | ((with_reducible refine g0_ rfl ?_); refine H.xb ?_; (intro g w H; simp only [Act.put, q1_, q2_, q3_]))
  | ((with_reducible refine g1_ rfl ?_); refine H.xa ?_; (intro g w H; simp only [Act.put, q1_, q2_, q3_]))
  | ((with_reducible refine g2_ rfl ?_); (first | refine H.xl ?_ | refine H.xm ?_); simp only [Act.put, q1_, q2_, q3_])
  | ((with_reducible refine g3_ rfl ?_); (first | refine H.xs ?_ | refine H.xt ?_); (intro w H; simp only [Act.put]))
  | ((with_reducible show Code.wp _ (.region 10 _ true) _ _ _); refine H.heldSub rfl (List.Sublist.refl _) ?_; intro H; refine H.zr 0 ?_; (try simp only [Act.put, q1_, q2_, q3_]); (try simp only [q4_, q5_, q6_]); refine H.zr 1 ?_; (try simp only [Act.put, q1_, q2_, q3_]); (try simp only [q4_, q5_, q6_]); refine H.zr 2 ?_ (hv := by intro w; go_simp; first | with_reducible rfl | (rw [if_pos (by omega)])); (try simp only [Act.put, q1_, q2_, q3_]); (try simp only [q4_, q5_, q6_]); refine H.zle 3 hK ha ?_; (try simp only [Act.put, q1_, q2_, q3_]); (try simp only [q4_, q5_, q6_]); refine H.zr 4 ?_; (try simp only [Act.put, q1_, q2_, q3_]); (try simp only [q4_, q5_, q6_]); refine H.zr 5 ?_; (try simp only [Act.put, q1_, q2_, q3_]); (try simp only [q4_, q5_, q6_]); refine H.zr 6 ?_ (hv := by intro w; go_simp; first | with_reducible rfl | (rw [if_pos (by omega)])); (try simp only [Act.put, q1_, q2_, q3_]); (try simp only [q4_, q5_, q6_]); refine H.zle 7 hA2 ha ?_; (try simp only [Act.put, q1_, q2_, q3_]); (try simp only [q4_, q5_, q6_]); refine H.zr 8 ?_; (try simp only [Act.put, q1_, q2_, q3_]); (try simp only [q4_, q5_, q6_]); refine wpAnyH_done (by kernel_rfl) ?_ _)
  )
   all_goals
    go_roundw
    case rel => exact ⟨q + 1, by omega, by go_num, H⟩
    case measure => first | (simp [intOf]; omega) | simp [intOf]
  ·obtain rfl : q = n := by omega
   have hdq : decide ((q : Int) < (q : Int)) = false := by simp
   go_wp2_with (first
  | ((with_reducible refine g0_ rfl ?_); refine H.xb ?_; (intro g w H; simp only [Act.put, q1_, q2_, q3_]))
  | ((with_reducible refine g1_ rfl ?_); refine H.xa ?_; (intro g w H; simp only [Act.put, q1_, q2_, q3_]))
  | ((with_reducible refine g2_ rfl ?_); (first | refine H.xl ?_ | refine H.xm ?_); simp only [Act.put, q1_, q2_, q3_])
  | ((with_reducible refine g3_ rfl ?_); (first | refine H.xs ?_ | refine H.xt ?_); (intro w H; simp only [Act.put]))
  )
   go_loopw [18] (fun i wr => ∃ z : Nat, z ≤ k ∧ i = .int .i64 z ∧ Own w2 wr [(gy, 27, bc x), (gx, 27, bc x)]) (fun i _ => k + 1 - (intOf i).toNat)
   case atStart => exact ⟨0, by omega, rfl, H⟩
   case round =>
    clear H
    obtain ⟨z, hqz, rfl, H⟩ := hrel
    by_cases hltz : z < k
    ·obtain ⟨bz, hb⟩ : ∃ b, r[z]? = some b := ⟨_, List.getElem?_eq_getElem (by rw [hk.out]; exact hltz)⟩
     have hdz : decide ((z : Int) < (k : Int)) = true := by simp; omega
     go_wp2_with (first
  | ((with_reducible refine g0_ rfl ?_); refine H.xb ?_; (intro g w H; simp only [Act.put, q1_, q2_, q3_]))
  | ((with_reducible refine g1_ rfl ?_); refine H.xa ?_; (intro g w H; simp only [Act.put, q1_, q2_, q3_]))
  | ((with_reducible refine g2_ rfl ?_); (first | refine H.xl ?_ | refine H.xm ?_); simp only [Act.put, q1_, q2_, q3_])
  | ((with_reducible refine g3_ rfl ?_); (first | refine H.xs ?_ | refine H.xt ?_); (intro w H; simp only [Act.put]))
  | ((with_reducible show Code.wp _ (.region 15 _ true) _ _ _); refine H.heldSub rfl (List.Sublist.refl _) ?_; intro H; refine H.zr 0 ?_; (try simp only [Act.put, q1_, q2_, q3_]); (try simp only [q4_, q5_, q6_]); refine H.zr 1 ?_; (try simp only [Act.put, q1_, q2_, q3_]); (try simp only [q4_, q5_, q6_]); refine H.zr 2 ?_ (hv := by intro w; go_simp; first | with_reducible rfl | (rw [if_pos (by omega)])); (try simp only [Act.put, q1_, q2_, q3_]); (try simp only [q4_, q5_, q6_]); refine H.zle 3 hJ hb ?_; (try simp only [Act.put, q1_, q2_, q3_]); (try simp only [q4_, q5_, q6_]); refine H.zr 4 ?_; (try simp only [Act.put, q1_, q2_, q3_]); (try simp only [q4_, q5_, q6_]); refine H.zr 5 ?_; (try simp only [Act.put, q1_, q2_, q3_]); (try simp only [q4_, q5_, q6_]); refine H.zr 6 ?_ (hv := by intro w; go_simp; first | with_reducible rfl | (rw [if_pos (by omega)])); (try simp only [Act.put, q1_, q2_, q3_]); (try simp only [q4_, q5_, q6_]); refine H.zle 7 hB2 hb ?_; (try simp only [Act.put, q1_, q2_, q3_]); (try simp only [q4_, q5_, q6_]); refine H.zr 8 ?_; (try simp only [Act.put, q1_, q2_, q3_]); (try simp only [q4_, q5_, q6_]); refine wpAnyH_done (by kernel_rfl) ?_ _)
  )
     all_goals
      go_roundw
      case rel => exact ⟨z + 1, by omega, by go_num, H⟩
      case measure => first | (simp [intOf]; omega) | simp [intOf]
    ·obtain rfl : z = k := by omega
     have hdz : decide ((z : Int) < (z : Int)) = false := by simp
     go_wp2_with (first
  | ((with_reducible refine g0_ rfl ?_); refine H.xb ?_; (intro g w H; simp only [Act.put, q1_, q2_, q3_]))
  | ((with_reducible refine g1_ rfl ?_); refine H.xa ?_; (intro g w H; simp only [Act.put, q1_, q2_, q3_]))
  | ((with_reducible refine g2_ rfl ?_); (first | refine H.xl ?_ | refine H.xm ?_); simp only [Act.put, q1_, q2_, q3_])
  | ((with_reducible refine g3_ rfl ?_); (first | refine H.xs ?_ | refine H.xt ?_); (intro w H; simp only [Act.put]))
  | (go_at_call 35; (with_reducible refine H.kc (cV _ (HT2.out.below H.below)) ?_; clear H; intro w H))
  )
     all_goals
      go_ret
      exact ⟨by simp, BEL.trans ((BEL2.trans (H.below.mono BEL2.size)).mono BEL.size)⟩
theorem fmaDots_alive (w : World) (hT : Tab w) (cA : CT_ 33 #[.int .u8 2, .int .u8 0, .agg #[.int .u64 0, .int .u64 16384], .agg #[.int .u64 0, .int .u64 16896], .agg #[.int .u64 0, .int .u64 48128]] (.tuple #[.agg #[.int .u64 0, .int .u64 17664], .int .u8 0, .int .i64 0])) :
  CR_ 35 #[] w (.bool true) := by
 have H := Own.start w
 have HT := Lib.hid hT
 clear hT
 go_enter Tryz.func35, Tryz.ntmps35
 exact walk4
theorem fmaDots_alive_any (w : World) (hT : Tab w) : CR_ 35 #[] w (.bool true) := by
 refine fmaDots_alive w hT fun w hT => ?_
 have := fmaMulAdd_any 2 0 16384 16896 48128 w (by decide) (by decide) (by decide) (by decide) (by decide) hT
 rw [show fmaN 2 0 16384 16896 48128 = (17664, 0, 0) by decide +kernel] at this
 exact this
theorem fmaDots_any (f m : Nat) (l r : List Nat) (u v : Value) (w : World) (hf : f < 256) (hm : m < 256) (hl : ∀ b ∈ l, b < 2 ^ (64 * 2)) (hr : ∀ b ∈ r, b < 2 ^ (64 * 2)) (hS : Sl w u l) (hU : Sl w v r) (hT : Tab w) :
  CR_ 10 #[.int .u8 f, .int .u8 m, u, v] w (.bool true) := by
 have cV := fun w hT => fmaDots_alive_any w hT
 by_cases hL : l.length ≤ 40
 case neg =>
  obtain ⟨sa, c, rfl⟩ := hS.shape
  obtain ⟨sb, d, rfl⟩ := hU.shape
  exact fmaDots_long1 f m _ c _ d sa sb w hT (by simp; omega) cV
 by_cases hR : r.length ≤ 40
 case neg =>
  obtain ⟨sa, c, rfl⟩ := hS.shape
  obtain ⟨sb, d, rfl⟩ := hU.shape
  exact fmaDots_long2 f m _ c _ d sa sb w hT (by simp; omega) (by simp; omega) cV
 have cA := fun (w : World) (u v : Value) (hT : Tab w) (hS : Sl w u l) (hU : Sl w v r) => fmaDot_any f m l r u v w hf hm hl hr (by omega) hT hS hU
 have cR := fun (w : World) (u v : Value) (hS : Sl w u l) (hU : Sl w v r) => r15Dot_any f m l r u v w hl hr (by omega) (by omega) hS hU
 have PA := hS
 have PB := hU
 rcases hS with ⟨sa, c, rfl, rfl, h0⟩ | ⟨g, o, n, c, rfl, h0, -, hn, hA⟩
 ·rcases hU with ⟨sb, d, rfl, rfl, h1⟩ | ⟨h, p, k, d, rfl, h1, -, hk, hB⟩
  ·exact fmaDots_ee f m _ _ _ w hT c sa h0 d sb h1 PA PB cV cA cR
  ·exact fmaDots_es f m _ _ _ w hT c sa h0 r h p k d hB (Lib.hid hk) h1 (by omega) (by simp; omega) PA PB cV cA cR
 ·rcases hU with ⟨sb, d, rfl, rfl, h1⟩ | ⟨h, p, k, d, rfl, h1, -, hk, hB⟩
  ·exact fmaDots_se f m _ _ _ w hT l g o n c hA (Lib.hid hn) h0 (by omega) (by simp; omega) d sb h1 PA PB cV cA cR
  ·exact fmaDots_ss f m _ _ _ w hT l g o n c hA (Lib.hid hn) h0 (by omega) (by simp; omega) r h p k d hB (Lib.hid hk) h1 (by omega) (by simp; omega) PA PB cV cA cR
end Go.Proofs.YtgmhmpflmgfcdaaGreatDoor
