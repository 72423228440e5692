/- Part 33 of what is proved: Fi0, Grj. -/
import Derived.Test.YtgmhmpflmgfcdaaGreatDoorHf1
import Derived.Test.YtgmhmpflmgfcdaaGreatDoorHf2
import Derived.Test.YtgmhmpflmgfcdaaGreatDoorHf4
import Derived.Test.YtgmhmpflmgfcdaaGreatDoorHf27
import Derived.Test.YtgmhmpflmgfcdaaGreatDoorHf32
set_option linter.unusedSimpArgs false
set_option linter.unusedVariables false
set_option linter.unnecessarySimpa false
set_option maxRecDepth 100000
set_option maxHeartbeats 1600000
namespace Go.Proofs.YtgmhmpflmgfcdaaGreatDoor
open Go.RowKit
theorem rD : IsRow Tryz.prog 95 2 #[.int .u8 0, .nilFunc] := ⟨⟨_, Tryz.underlying95, rfl⟩, by kernel_rfl, by kernel_rfl⟩
theorem rE : IsRow Tryz.prog 96 8 #[.int .u8 0, .nilFunc, .int .u8 0, .nilFunc, .int .u8 0, .nilFunc, .int .u8 0, .nilFunc] := ⟨⟨_, Tryz.underlying96, rfl⟩, by kernel_rfl, by kernel_rfl⟩
theorem oK : IsOne Tryz.prog 22 := ⟨⟨_, Tryz.underlying22, rfl⟩, by kernel_rfl⟩
theorem oX : IsOne Tryz.prog 93 := ⟨⟨_, Tryz.underlying93, rfl⟩, by kernel_rfl⟩
theorem wp_index {P : Program} {w : World} {op : Oper} {a : Act} {Q : Exit → Act → World → Prop} {ops : Array Oper} {rest : List Oper} {t : TypeId} {x y : Operand} (hw : Region.wanted op (yielded ops a.tmps) = true) (ho : op.op = .index t x y) {v u i : Value} (hx : a.eval x = u) (hi : a.eval y = i)
    (hv : ∀ w, (Instr.index t u i).run P w = .ok v w) (h : wpList P ops Q rest (a.put op.dst v) w) : wpList P ops Q (op :: rest) a w := by
  refine wp_wanted hw fun K hK => ?_
  subst hx hi
  have hk := hK _ _ h
  unfold Oper.wp execOp
  simp only [ho, Sem.run_bind, hv, Result.andThen_ok]
  exact hk
theorem ix_0 (w : World) : (Instr.index 96 (.agg #[.int .u8 0, .func (.func 65) #[] #[], .int .u8 1, .func (.func 67) #[] #[], .int .u8 2, .func (.func 68) #[] #[], .int .u8 3, .func (.func 69) #[] #[]]) (.int .i64 0)).run Tryz.prog w = .ok (.agg #[.int .u8 0, .func (.func 65) #[] #[]]) w := by kernel_rfl
theorem ix_1 (w : World) : (Instr.index 96 (.agg #[.int .u8 0, .func (.func 65) #[] #[], .int .u8 1, .func (.func 67) #[] #[], .int .u8 2, .func (.func 68) #[] #[], .int .u8 3, .func (.func 69) #[] #[]]) (.int .i64 1)).run Tryz.prog w = .ok (.agg #[.int .u8 1, .func (.func 67) #[] #[]]) w := by kernel_rfl
theorem ix_2 (w : World) : (Instr.index 96 (.agg #[.int .u8 0, .func (.func 65) #[] #[], .int .u8 1, .func (.func 67) #[] #[], .int .u8 2, .func (.func 68) #[] #[], .int .u8 3, .func (.func 69) #[] #[]]) (.int .i64 2)).run Tryz.prog w = .ok (.agg #[.int .u8 2, .func (.func 68) #[] #[]]) w := by kernel_rfl
theorem ix_3 (w : World) : (Instr.index 96 (.agg #[.int .u8 0, .func (.func 65) #[] #[], .int .u8 1, .func (.func 67) #[] #[], .int .u8 2, .func (.func 68) #[] #[], .int .u8 3, .func (.func 69) #[] #[]]) (.int .i64 3)).run Tryz.prog w = .ok (.agg #[.int .u8 3, .func (.func 69) #[] #[]]) w := by kernel_rfl
theorem ext_v8 (a b c d e f g h : Value) : #[a, b, c, d, e, f, g, h].extract 0 (0 + #[a, b, c, d, e, f, g, h].size) = #[a, b, c, d, e, f, g, h] := by rw [Nat.zero_add]; exact Array.extract_size
theorem set_v2 (a b c d : Value) : setRow #[a, b] 0 (#[c, d] : Array Value).toList = #[c, d] := set_all _ _ rfl
theorem set_v8 (a b c d e f g h a' b' c' d' e' f' g' h' : Value) : setRow #[a, b, c, d, e, f, g, h] 0 (#[a', b', c', d', e', f', g', h'] : Array Value).toList = #[a', b', c', d', e', f', g', h'] := set_all _ _ rfl
theorem fiSigned_neg (s n : Int) (w : World) (h1 : -9223372036854775808 ≤ s) (h2 : s < 9223372036854775808) (h : s < 0) (hn : IntKind.u64.wrap (-IntKind.u64.wrap s) = n)  :
    Calls Tryz.prog 66 #[.int .i64 s] w fun e w' => e = .returned (.tuple #[.bool true, .int .u64 n]) ∧ Below w.heap.size w w' := by
  have H := Own.start w
  go_enter Tryz.func66, Tryz.ntmps66
  exact walk1
theorem fiSigned_pos (s : Int) (w : World) (h1 : -9223372036854775808 ≤ s) (h2 : s < 9223372036854775808) (h : ¬ s < 0)  :
    Calls Tryz.prog 66 #[.int .i64 s] w fun e w' => e = .returned (.tuple #[.bool false, .int .u64 s]) ∧ Below w.heap.size w w' := by
  have H := Own.start w
  go_enter Tryz.func66, Tryz.ntmps66
  exact walk1
theorem fiClo1 (x : Nat) (w : World) (hx : x < 18446744073709551616) (ng : Bool) (n : Int) (cS : CK_ 66 #[.int .i64 (wrap64 (wrap32 ((x : Int) % 4294967296)))] (.tuple #[.bool ng, .int .u64 n])) :
    Calls Tryz.prog 65 #[.int .u64 x] w fun e w' => e = .returned (.tuple #[.bool ng, .int .u64 n]) ∧ Below w.heap.size w w' := by
  have H := Own.start w
  go_enter Tryz.func65, Tryz.ntmps65
  exact walk2
theorem fiClo2 (x : Nat) (w : World) (hx : x < 18446744073709551616)  :
    Calls Tryz.prog 67 #[.int .u64 x] w fun e w' => e = .returned (.tuple #[.bool false, .int .u64 ((x : Int) % 4294967296)]) ∧ Below w.heap.size w w' := by
  have H := Own.start w
  go_enter Tryz.func67, Tryz.ntmps67
  exact walk2
theorem fiClo3 (x : Nat) (w : World) (hx : x < 18446744073709551616) (ng : Bool) (n : Int) (cS : CK_ 66 #[.int .i64 (wrap64 (x : Int))] (.tuple #[.bool ng, .int .u64 n])) :
    Calls Tryz.prog 68 #[.int .u64 x] w fun e w' => e = .returned (.tuple #[.bool ng, .int .u64 n]) ∧ Below w.heap.size w w' := by
  have H := Own.start w
  go_enter Tryz.func68, Tryz.ntmps68
  exact walk2
theorem fiClo4 (x : Nat) (w : World) (hx : x < 18446744073709551616)  :
    Calls Tryz.prog 69 #[.int .u64 x] w fun e w' => e = .returned (.tuple #[.bool false, .int .u64 x]) ∧ Below w.heap.size w w' := by
  have H := Own.start w
  go_enter Tryz.func69, Tryz.ntmps69
  exact walk2
set_option maxHeartbeats 3200000 in
theorem fiNumber_k0 (x : Nat) (w0 : World) (ng : Bool) (n : Int) (cX : CK_ 65 #[.int .u64 x] (.tuple #[.bool ng, .int .u64 n])) :
    Calls Tryz.prog 17 #[.int .u8 0, .int .u64 x] w0 fun e w' => e = .returned (.tuple #[.bool ng, .int .u64 n, .int .i64 0]) ∧ Below w0.heap.size w0 w' := by
  have H := Own.start w0
  go_enter Tryz.func17, Tryz.ntmps17
  go_wp2_with (first
    | ((with_reducible show wpList _ _ _ (⟨_, .store 95 _ _, _, _, _, _⟩ :: _) _ _); refine H.xs ?_ (hv := set_v2 _ _ _ _); (intro w H; simp only [Act.put]))
    | ((with_reducible show wpList _ _ _ (⟨_, .box _ _, _, _, _, _⟩ :: _) _ _); refine H.xb ?_; (intro g w H; simp only [Act.put, q1_, q2_, q3_]))
    | ((with_reducible show wpList _ _ _ (⟨_, .alloc _, _, _, _, _⟩ :: _) _ _); refine H.xa ?_; (intro g w H; simp only [Act.put, q1_, q2_, q3_]))
    | ((with_reducible show wpList _ _ _ (⟨_, .load _ _, _, _, _, _⟩ :: _) _ _); (first | refine H.xl ?_ | refine H.xm ?_); simp only [Act.put, q1_, q2_, q3_])
    | ((with_reducible show wpList _ _ _ (⟨_, .store _ _ _, _, _, _, _⟩ :: _) _ _); (first | refine H.xs ?_ | refine H.xt ?_); (intro w H; simp only [Act.put]))
    | ((with_reducible show wpList _ _ _ (⟨_, .index _ _ _, _, _, _, _⟩ :: _) _ _); (first | refine wp_index rfl rfl rfl rfl ix_0 ?_ | refine wp_index rfl rfl rfl rfl ix_1 ?_ | refine wp_index rfl rfl rfl rfl ix_2 ?_ | refine wp_index rfl rfl rfl rfl ix_3 ?_); simp only [Act.put, q1_, q2_, q3_])
    | ((first | go_at_call 65 | go_at_call 67 | go_at_call 68 | go_at_call 69); (with_reducible first | refine (cX _).mono ?_); rintro e w ⟨rfl, hb⟩; replace H := H.call hb; clear hb)
    )
  go_loopw [16] (fun i wr => (i = .int .i64 0 ∧ Own w0 wr [])) (fun i _ => 5 - (intOf i).toNat)
  case atStart => exact ⟨rfl, H.sub (List.nil_sublist _)⟩
  case round =>
    clear H
    obtain ⟨rfl, H⟩ := hrel
    · go_wp2_with (first
      | ((with_reducible show wpList _ _ _ (⟨_, .store 95 _ _, _, _, _, _⟩ :: _) _ _); refine H.xs ?_ (hv := set_v2 _ _ _ _); (intro w H; simp only [Act.put]))
      | ((with_reducible show wpList _ _ _ (⟨_, .box _ _, _, _, _, _⟩ :: _) _ _); refine H.xb ?_; (intro g w H; simp only [Act.put, q1_, q2_, q3_]))
      | ((with_reducible show wpList _ _ _ (⟨_, .alloc _, _, _, _, _⟩ :: _) _ _); refine H.xa ?_; (intro g w H; simp only [Act.put, q1_, q2_, q3_]))
      | ((with_reducible show wpList _ _ _ (⟨_, .load _ _, _, _, _, _⟩ :: _) _ _); (first | refine H.xl ?_ | refine H.xm ?_); simp only [Act.put, q1_, q2_, q3_])
      | ((with_reducible show wpList _ _ _ (⟨_, .store _ _ _, _, _, _, _⟩ :: _) _ _); (first | refine H.xs ?_ | refine H.xt ?_); (intro w H; simp only [Act.put]))
      | ((with_reducible show wpList _ _ _ (⟨_, .index _ _ _, _, _, _, _⟩ :: _) _ _); (first | refine wp_index rfl rfl rfl rfl ix_0 ?_ | refine wp_index rfl rfl rfl rfl ix_1 ?_ | refine wp_index rfl rfl rfl rfl ix_2 ?_ | refine wp_index rfl rfl rfl rfl ix_3 ?_); simp only [Act.put, q1_, q2_, q3_])
      | (go_at_call 65; ((with_reducible refine (cX _).mono ?_); rintro e w ⟨rfl, hb⟩; replace H := H.call hb; clear hb))
      | (go_at_call 67; ((with_reducible refine (cX _).mono ?_); rintro e w ⟨rfl, hb⟩; replace H := H.call hb; clear hb))
      | (go_at_call 68; ((with_reducible refine (cX _).mono ?_); rintro e w ⟨rfl, hb⟩; replace H := H.call hb; clear hb))
      | (go_at_call 69; ((with_reducible refine (cX _).mono ?_); rintro e w ⟨rfl, hb⟩; replace H := H.call hb; clear hb))
      )
      all_goals
        go_ret3
        exact ⟨by rfl, H.below⟩
set_option maxHeartbeats 3200000 in
theorem fiNumber_k1 (x : Nat) (w0 : World) (ng : Bool) (n : Int) (cX : CK_ 67 #[.int .u64 x] (.tuple #[.bool ng, .int .u64 n])) :
    Calls Tryz.prog 17 #[.int .u8 1, .int .u64 x] w0 fun e w' => e = .returned (.tuple #[.bool ng, .int .u64 n, .int .i64 0]) ∧ Below w0.heap.size w0 w' := by
  have H := Own.start w0
  go_enter Tryz.func17, Tryz.ntmps17
  go_wp2_with (first
    | ((with_reducible show wpList _ _ _ (⟨_, .store 95 _ _, _, _, _, _⟩ :: _) _ _); refine H.xs ?_ (hv := set_v2 _ _ _ _); (intro w H; simp only [Act.put]))
    | ((with_reducible show wpList _ _ _ (⟨_, .box _ _, _, _, _, _⟩ :: _) _ _); refine H.xb ?_; (intro g w H; simp only [Act.put, q1_, q2_, q3_]))
    | ((with_reducible show wpList _ _ _ (⟨_, .alloc _, _, _, _, _⟩ :: _) _ _); refine H.xa ?_; (intro g w H; simp only [Act.put, q1_, q2_, q3_]))
    | ((with_reducible show wpList _ _ _ (⟨_, .load _ _, _, _, _, _⟩ :: _) _ _); (first | refine H.xl ?_ | refine H.xm ?_); simp only [Act.put, q1_, q2_, q3_])
    | ((with_reducible show wpList _ _ _ (⟨_, .store _ _ _, _, _, _, _⟩ :: _) _ _); (first | refine H.xs ?_ | refine H.xt ?_); (intro w H; simp only [Act.put]))
    | ((with_reducible show wpList _ _ _ (⟨_, .index _ _ _, _, _, _, _⟩ :: _) _ _); (first | refine wp_index rfl rfl rfl rfl ix_0 ?_ | refine wp_index rfl rfl rfl rfl ix_1 ?_ | refine wp_index rfl rfl rfl rfl ix_2 ?_ | refine wp_index rfl rfl rfl rfl ix_3 ?_); simp only [Act.put, q1_, q2_, q3_])
    | ((first | go_at_call 65 | go_at_call 67 | go_at_call 68 | go_at_call 69); (with_reducible first | refine (cX _).mono ?_); rintro e w ⟨rfl, hb⟩; replace H := H.call hb; clear hb)
    )
  go_loopw [16] (fun i wr => (i = .int .i64 0 ∧ Own w0 wr []) ∨ (i = .int .i64 1 ∧ Own w0 wr [])) (fun i _ => 5 - (intOf i).toNat)
  case atStart => exact Or.inl ⟨rfl, H.sub (List.nil_sublist _)⟩
  case round =>
    clear H
    rcases hrel with ⟨rfl, H⟩ | ⟨rfl, H⟩
    · go_wp2_with (first
      | ((with_reducible show wpList _ _ _ (⟨_, .store 95 _ _, _, _, _, _⟩ :: _) _ _); refine H.xs ?_ (hv := set_v2 _ _ _ _); (intro w H; simp only [Act.put]))
      | ((with_reducible show wpList _ _ _ (⟨_, .box _ _, _, _, _, _⟩ :: _) _ _); refine H.xb ?_; (intro g w H; simp only [Act.put, q1_, q2_, q3_]))
      | ((with_reducible show wpList _ _ _ (⟨_, .alloc _, _, _, _, _⟩ :: _) _ _); refine H.xa ?_; (intro g w H; simp only [Act.put, q1_, q2_, q3_]))
      | ((with_reducible show wpList _ _ _ (⟨_, .load _ _, _, _, _, _⟩ :: _) _ _); (first | refine H.xl ?_ | refine H.xm ?_); simp only [Act.put, q1_, q2_, q3_])
      | ((with_reducible show wpList _ _ _ (⟨_, .store _ _ _, _, _, _, _⟩ :: _) _ _); (first | refine H.xs ?_ | refine H.xt ?_); (intro w H; simp only [Act.put]))
      | ((with_reducible show wpList _ _ _ (⟨_, .index _ _ _, _, _, _, _⟩ :: _) _ _); (first | refine wp_index rfl rfl rfl rfl ix_0 ?_ | refine wp_index rfl rfl rfl rfl ix_1 ?_ | refine wp_index rfl rfl rfl rfl ix_2 ?_ | refine wp_index rfl rfl rfl rfl ix_3 ?_); simp only [Act.put, q1_, q2_, q3_])
      | (go_at_call 65; ((with_reducible refine (cX _).mono ?_); rintro e w ⟨rfl, hb⟩; replace H := H.call hb; clear hb))
      | (go_at_call 67; ((with_reducible refine (cX _).mono ?_); rintro e w ⟨rfl, hb⟩; replace H := H.call hb; clear hb))
      | (go_at_call 68; ((with_reducible refine (cX _).mono ?_); rintro e w ⟨rfl, hb⟩; replace H := H.call hb; clear hb))
      | (go_at_call 69; ((with_reducible refine (cX _).mono ?_); rintro e w ⟨rfl, hb⟩; replace H := H.call hb; clear hb))
      )
      all_goals
        go_roundw
        case rel => exact (Or.inr ⟨rfl, H.sub (List.nil_sublist _)⟩)
        case measure => simp [intOf]
    · go_wp2_with (first
      | ((with_reducible show wpList _ _ _ (⟨_, .store 95 _ _, _, _, _, _⟩ :: _) _ _); refine H.xs ?_ (hv := set_v2 _ _ _ _); (intro w H; simp only [Act.put]))
      | ((with_reducible show wpList _ _ _ (⟨_, .box _ _, _, _, _, _⟩ :: _) _ _); refine H.xb ?_; (intro g w H; simp only [Act.put, q1_, q2_, q3_]))
      | ((with_reducible show wpList _ _ _ (⟨_, .alloc _, _, _, _, _⟩ :: _) _ _); refine H.xa ?_; (intro g w H; simp only [Act.put, q1_, q2_, q3_]))
      | ((with_reducible show wpList _ _ _ (⟨_, .load _ _, _, _, _, _⟩ :: _) _ _); (first | refine H.xl ?_ | refine H.xm ?_); simp only [Act.put, q1_, q2_, q3_])
      | ((with_reducible show wpList _ _ _ (⟨_, .store _ _ _, _, _, _, _⟩ :: _) _ _); (first | refine H.xs ?_ | refine H.xt ?_); (intro w H; simp only [Act.put]))
      | ((with_reducible show wpList _ _ _ (⟨_, .index _ _ _, _, _, _, _⟩ :: _) _ _); (first | refine wp_index rfl rfl rfl rfl ix_0 ?_ | refine wp_index rfl rfl rfl rfl ix_1 ?_ | refine wp_index rfl rfl rfl rfl ix_2 ?_ | refine wp_index rfl rfl rfl rfl ix_3 ?_); simp only [Act.put, q1_, q2_, q3_])
      | (go_at_call 65; ((with_reducible refine (cX _).mono ?_); rintro e w ⟨rfl, hb⟩; replace H := H.call hb; clear hb))
      | (go_at_call 67; ((with_reducible refine (cX _).mono ?_); rintro e w ⟨rfl, hb⟩; replace H := H.call hb; clear hb))
      | (go_at_call 68; ((with_reducible refine (cX _).mono ?_); rintro e w ⟨rfl, hb⟩; replace H := H.call hb; clear hb))
      | (go_at_call 69; ((with_reducible refine (cX _).mono ?_); rintro e w ⟨rfl, hb⟩; replace H := H.call hb; clear hb))
      )
      all_goals
        go_ret3
        exact ⟨by rfl, H.below⟩
set_option maxHeartbeats 3200000 in
theorem fiNumber_k2 (x : Nat) (w0 : World) (ng : Bool) (n : Int) (cX : CK_ 68 #[.int .u64 x] (.tuple #[.bool ng, .int .u64 n])) :
    Calls Tryz.prog 17 #[.int .u8 2, .int .u64 x] w0 fun e w' => e = .returned (.tuple #[.bool ng, .int .u64 n, .int .i64 0]) ∧ Below w0.heap.size w0 w' := by
  have H := Own.start w0
  go_enter Tryz.func17, Tryz.ntmps17
  go_wp2_with (first
    | ((with_reducible show wpList _ _ _ (⟨_, .store 95 _ _, _, _, _, _⟩ :: _) _ _); refine H.xs ?_ (hv := set_v2 _ _ _ _); (intro w H; simp only [Act.put]))
    | ((with_reducible show wpList _ _ _ (⟨_, .box _ _, _, _, _, _⟩ :: _) _ _); refine H.xb ?_; (intro g w H; simp only [Act.put, q1_, q2_, q3_]))
    | ((with_reducible show wpList _ _ _ (⟨_, .alloc _, _, _, _, _⟩ :: _) _ _); refine H.xa ?_; (intro g w H; simp only [Act.put, q1_, q2_, q3_]))
    | ((with_reducible show wpList _ _ _ (⟨_, .load _ _, _, _, _, _⟩ :: _) _ _); (first | refine H.xl ?_ | refine H.xm ?_); simp only [Act.put, q1_, q2_, q3_])
    | ((with_reducible show wpList _ _ _ (⟨_, .store _ _ _, _, _, _, _⟩ :: _) _ _); (first | refine H.xs ?_ | refine H.xt ?_); (intro w H; simp only [Act.put]))
    | ((with_reducible show wpList _ _ _ (⟨_, .index _ _ _, _, _, _, _⟩ :: _) _ _); (first | refine wp_index rfl rfl rfl rfl ix_0 ?_ | refine wp_index rfl rfl rfl rfl ix_1 ?_ | refine wp_index rfl rfl rfl rfl ix_2 ?_ | refine wp_index rfl rfl rfl rfl ix_3 ?_); simp only [Act.put, q1_, q2_, q3_])
    | ((first | go_at_call 65 | go_at_call 67 | go_at_call 68 | go_at_call 69); (with_reducible first | refine (cX _).mono ?_); rintro e w ⟨rfl, hb⟩; replace H := H.call hb; clear hb)
    )
  go_loopw [16] (fun i wr => (i = .int .i64 0 ∧ Own w0 wr []) ∨ (i = .int .i64 1 ∧ Own w0 wr []) ∨ (i = .int .i64 2 ∧ Own w0 wr [])) (fun i _ => 5 - (intOf i).toNat)
  case atStart => exact Or.inl ⟨rfl, H.sub (List.nil_sublist _)⟩
  case round =>
    clear H
    rcases hrel with ⟨rfl, H⟩ | ⟨rfl, H⟩ | ⟨rfl, H⟩
    · go_wp2_with (first
      | ((with_reducible show wpList _ _ _ (⟨_, .store 95 _ _, _, _, _, _⟩ :: _) _ _); refine H.xs ?_ (hv := set_v2 _ _ _ _); (intro w H; simp only [Act.put]))
      | ((with_reducible show wpList _ _ _ (⟨_, .box _ _, _, _, _, _⟩ :: _) _ _); refine H.xb ?_; (intro g w H; simp only [Act.put, q1_, q2_, q3_]))
      | ((with_reducible show wpList _ _ _ (⟨_, .alloc _, _, _, _, _⟩ :: _) _ _); refine H.xa ?_; (intro g w H; simp only [Act.put, q1_, q2_, q3_]))
      | ((with_reducible show wpList _ _ _ (⟨_, .load _ _, _, _, _, _⟩ :: _) _ _); (first | refine H.xl ?_ | refine H.xm ?_); simp only [Act.put, q1_, q2_, q3_])
      | ((with_reducible show wpList _ _ _ (⟨_, .store _ _ _, _, _, _, _⟩ :: _) _ _); (first | refine H.xs ?_ | refine H.xt ?_); (intro w H; simp only [Act.put]))
      | ((with_reducible show wpList _ _ _ (⟨_, .index _ _ _, _, _, _, _⟩ :: _) _ _); (first | refine wp_index rfl rfl rfl rfl ix_0 ?_ | refine wp_index rfl rfl rfl rfl ix_1 ?_ | refine wp_index rfl rfl rfl rfl ix_2 ?_ | refine wp_index rfl rfl rfl rfl ix_3 ?_); simp only [Act.put, q1_, q2_, q3_])
      | (go_at_call 65; ((with_reducible refine (cX _).mono ?_); rintro e w ⟨rfl, hb⟩; replace H := H.call hb; clear hb))
      | (go_at_call 67; ((with_reducible refine (cX _).mono ?_); rintro e w ⟨rfl, hb⟩; replace H := H.call hb; clear hb))
      | (go_at_call 68; ((with_reducible refine (cX _).mono ?_); rintro e w ⟨rfl, hb⟩; replace H := H.call hb; clear hb))
      | (go_at_call 69; ((with_reducible refine (cX _).mono ?_); rintro e w ⟨rfl, hb⟩; replace H := H.call hb; clear hb))
      )
      all_goals
        go_roundw
        case rel => exact (Or.inr (Or.inl ⟨rfl, H.sub (List.nil_sublist _)⟩))
        case measure => simp [intOf]
    · go_wp2_with (first
      | ((with_reducible show wpList _ _ _ (⟨_, .store 95 _ _, _, _, _, _⟩ :: _) _ _); refine H.xs ?_ (hv := set_v2 _ _ _ _); (intro w H; simp only [Act.put]))
      | ((with_reducible show wpList _ _ _ (⟨_, .box _ _, _, _, _, _⟩ :: _) _ _); refine H.xb ?_; (intro g w H; simp only [Act.put, q1_, q2_, q3_]))
      | ((with_reducible show wpList _ _ _ (⟨_, .alloc _, _, _, _, _⟩ :: _) _ _); refine H.xa ?_; (intro g w H; simp only [Act.put, q1_, q2_, q3_]))
      | ((with_reducible show wpList _ _ _ (⟨_, .load _ _, _, _, _, _⟩ :: _) _ _); (first | refine H.xl ?_ | refine H.xm ?_); simp only [Act.put, q1_, q2_, q3_])
      | ((with_reducible show wpList _ _ _ (⟨_, .store _ _ _, _, _, _, _⟩ :: _) _ _); (first | refine H.xs ?_ | refine H.xt ?_); (intro w H; simp only [Act.put]))
      | ((with_reducible show wpList _ _ _ (⟨_, .index _ _ _, _, _, _, _⟩ :: _) _ _); (first | refine wp_index rfl rfl rfl rfl ix_0 ?_ | refine wp_index rfl rfl rfl rfl ix_1 ?_ | refine wp_index rfl rfl rfl rfl ix_2 ?_ | refine wp_index rfl rfl rfl rfl ix_3 ?_); simp only [Act.put, q1_, q2_, q3_])
      | (go_at_call 65; ((with_reducible refine (cX _).mono ?_); rintro e w ⟨rfl, hb⟩; replace H := H.call hb; clear hb))
      | (go_at_call 67; ((with_reducible refine (cX _).mono ?_); rintro e w ⟨rfl, hb⟩; replace H := H.call hb; clear hb))
      | (go_at_call 68; ((with_reducible refine (cX _).mono ?_); rintro e w ⟨rfl, hb⟩; replace H := H.call hb; clear hb))
      | (go_at_call 69; ((with_reducible refine (cX _).mono ?_); rintro e w ⟨rfl, hb⟩; replace H := H.call hb; clear hb))
      )
      all_goals
        go_roundw
        case rel => exact (Or.inr (Or.inr ⟨rfl, H.sub (List.nil_sublist _)⟩))
        case measure => simp [intOf]
    · go_wp2_with (first
      | ((with_reducible show wpList _ _ _ (⟨_, .store 95 _ _, _, _, _, _⟩ :: _) _ _); refine H.xs ?_ (hv := set_v2 _ _ _ _); (intro w H; simp only [Act.put]))
      | ((with_reducible show wpList _ _ _ (⟨_, .box _ _, _, _, _, _⟩ :: _) _ _); refine H.xb ?_; (intro g w H; simp only [Act.put, q1_, q2_, q3_]))
      | ((with_reducible show wpList _ _ _ (⟨_, .alloc _, _, _, _, _⟩ :: _) _ _); refine H.xa ?_; (intro g w H; simp only [Act.put, q1_, q2_, q3_]))
      | ((with_reducible show wpList _ _ _ (⟨_, .load _ _, _, _, _, _⟩ :: _) _ _); (first | refine H.xl ?_ | refine H.xm ?_); simp only [Act.put, q1_, q2_, q3_])
      | ((with_reducible show wpList _ _ _ (⟨_, .store _ _ _, _, _, _, _⟩ :: _) _ _); (first | refine H.xs ?_ | refine H.xt ?_); (intro w H; simp only [Act.put]))
      | ((with_reducible show wpList _ _ _ (⟨_, .index _ _ _, _, _, _, _⟩ :: _) _ _); (first | refine wp_index rfl rfl rfl rfl ix_0 ?_ | refine wp_index rfl rfl rfl rfl ix_1 ?_ | refine wp_index rfl rfl rfl rfl ix_2 ?_ | refine wp_index rfl rfl rfl rfl ix_3 ?_); simp only [Act.put, q1_, q2_, q3_])
      | (go_at_call 65; ((with_reducible refine (cX _).mono ?_); rintro e w ⟨rfl, hb⟩; replace H := H.call hb; clear hb))
      | (go_at_call 67; ((with_reducible refine (cX _).mono ?_); rintro e w ⟨rfl, hb⟩; replace H := H.call hb; clear hb))
      | (go_at_call 68; ((with_reducible refine (cX _).mono ?_); rintro e w ⟨rfl, hb⟩; replace H := H.call hb; clear hb))
      | (go_at_call 69; ((with_reducible refine (cX _).mono ?_); rintro e w ⟨rfl, hb⟩; replace H := H.call hb; clear hb))
      )
      all_goals
        go_ret3
        exact ⟨by rfl, H.below⟩
set_option maxHeartbeats 3200000 in
theorem fiNumber_k3 (x : Nat) (w0 : World) (ng : Bool) (n : Int) (cX : CK_ 69 #[.int .u64 x] (.tuple #[.bool ng, .int .u64 n])) :
    Calls Tryz.prog 17 #[.int .u8 3, .int .u64 x] w0 fun e w' => e = .returned (.tuple #[.bool ng, .int .u64 n, .int .i64 0]) ∧ Below w0.heap.size w0 w' := by
  have H := Own.start w0
  go_enter Tryz.func17, Tryz.ntmps17
  go_wp2_with (first
    | ((with_reducible show wpList _ _ _ (⟨_, .store 95 _ _, _, _, _, _⟩ :: _) _ _); refine H.xs ?_ (hv := set_v2 _ _ _ _); (intro w H; simp only [Act.put]))
    | ((with_reducible show wpList _ _ _ (⟨_, .box _ _, _, _, _, _⟩ :: _) _ _); refine H.xb ?_; (intro g w H; simp only [Act.put, q1_, q2_, q3_]))
    | ((with_reducible show wpList _ _ _ (⟨_, .alloc _, _, _, _, _⟩ :: _) _ _); refine H.xa ?_; (intro g w H; simp only [Act.put, q1_, q2_, q3_]))
    | ((with_reducible show wpList _ _ _ (⟨_, .load _ _, _, _, _, _⟩ :: _) _ _); (first | refine H.xl ?_ | refine H.xm ?_); simp only [Act.put, q1_, q2_, q3_])
    | ((with_reducible show wpList _ _ _ (⟨_, .store _ _ _, _, _, _, _⟩ :: _) _ _); (first | refine H.xs ?_ | refine H.xt ?_); (intro w H; simp only [Act.put]))
    | ((with_reducible show wpList _ _ _ (⟨_, .index _ _ _, _, _, _, _⟩ :: _) _ _); (first | refine wp_index rfl rfl rfl rfl ix_0 ?_ | refine wp_index rfl rfl rfl rfl ix_1 ?_ | refine wp_index rfl rfl rfl rfl ix_2 ?_ | refine wp_index rfl rfl rfl rfl ix_3 ?_); simp only [Act.put, q1_, q2_, q3_])
    | ((first | go_at_call 65 | go_at_call 67 | go_at_call 68 | go_at_call 69); (with_reducible first | refine (cX _).mono ?_); rintro e w ⟨rfl, hb⟩; replace H := H.call hb; clear hb)
    )
  go_loopw [16] (fun i wr => (i = .int .i64 0 ∧ Own w0 wr []) ∨ (i = .int .i64 1 ∧ Own w0 wr []) ∨ (i = .int .i64 2 ∧ Own w0 wr []) ∨ (i = .int .i64 3 ∧ Own w0 wr [])) (fun i _ => 5 - (intOf i).toNat)
  case atStart => exact Or.inl ⟨rfl, H.sub (List.nil_sublist _)⟩
  case round =>
    clear H
    rcases hrel with ⟨rfl, H⟩ | ⟨rfl, H⟩ | ⟨rfl, H⟩ | ⟨rfl, H⟩
    · go_wp2_with (first
      | ((with_reducible show wpList _ _ _ (⟨_, .store 95 _ _, _, _, _, _⟩ :: _) _ _); refine H.xs ?_ (hv := set_v2 _ _ _ _); (intro w H; simp only [Act.put]))
      | ((with_reducible show wpList _ _ _ (⟨_, .box _ _, _, _, _, _⟩ :: _) _ _); refine H.xb ?_; (intro g w H; simp only [Act.put, q1_, q2_, q3_]))
      | ((with_reducible show wpList _ _ _ (⟨_, .alloc _, _, _, _, _⟩ :: _) _ _); refine H.xa ?_; (intro g w H; simp only [Act.put, q1_, q2_, q3_]))
      | ((with_reducible show wpList _ _ _ (⟨_, .load _ _, _, _, _, _⟩ :: _) _ _); (first | refine H.xl ?_ | refine H.xm ?_); simp only [Act.put, q1_, q2_, q3_])
      | ((with_reducible show wpList _ _ _ (⟨_, .store _ _ _, _, _, _, _⟩ :: _) _ _); (first | refine H.xs ?_ | refine H.xt ?_); (intro w H; simp only [Act.put]))
      | ((with_reducible show wpList _ _ _ (⟨_, .index _ _ _, _, _, _, _⟩ :: _) _ _); (first | refine wp_index rfl rfl rfl rfl ix_0 ?_ | refine wp_index rfl rfl rfl rfl ix_1 ?_ | refine wp_index rfl rfl rfl rfl ix_2 ?_ | refine wp_index rfl rfl rfl rfl ix_3 ?_); simp only [Act.put, q1_, q2_, q3_])
      | (go_at_call 65; ((with_reducible refine (cX _).mono ?_); rintro e w ⟨rfl, hb⟩; replace H := H.call hb; clear hb))
      | (go_at_call 67; ((with_reducible refine (cX _).mono ?_); rintro e w ⟨rfl, hb⟩; replace H := H.call hb; clear hb))
      | (go_at_call 68; ((with_reducible refine (cX _).mono ?_); rintro e w ⟨rfl, hb⟩; replace H := H.call hb; clear hb))
      | (go_at_call 69; ((with_reducible refine (cX _).mono ?_); rintro e w ⟨rfl, hb⟩; replace H := H.call hb; clear hb))
      )
      all_goals
        go_roundw
        case rel => exact (Or.inr (Or.inl ⟨rfl, H.sub (List.nil_sublist _)⟩))
        case measure => simp [intOf]
    · go_wp2_with (first
      | ((with_reducible show wpList _ _ _ (⟨_, .store 95 _ _, _, _, _, _⟩ :: _) _ _); refine H.xs ?_ (hv := set_v2 _ _ _ _); (intro w H; simp only [Act.put]))
      | ((with_reducible show wpList _ _ _ (⟨_, .box _ _, _, _, _, _⟩ :: _) _ _); refine H.xb ?_; (intro g w H; simp only [Act.put, q1_, q2_, q3_]))
      | ((with_reducible show wpList _ _ _ (⟨_, .alloc _, _, _, _, _⟩ :: _) _ _); refine H.xa ?_; (intro g w H; simp only [Act.put, q1_, q2_, q3_]))
      | ((with_reducible show wpList _ _ _ (⟨_, .load _ _, _, _, _, _⟩ :: _) _ _); (first | refine H.xl ?_ | refine H.xm ?_); simp only [Act.put, q1_, q2_, q3_])
      | ((with_reducible show wpList _ _ _ (⟨_, .store _ _ _, _, _, _, _⟩ :: _) _ _); (first | refine H.xs ?_ | refine H.xt ?_); (intro w H; simp only [Act.put]))
      | ((with_reducible show wpList _ _ _ (⟨_, .index _ _ _, _, _, _, _⟩ :: _) _ _); (first | refine wp_index rfl rfl rfl rfl ix_0 ?_ | refine wp_index rfl rfl rfl rfl ix_1 ?_ | refine wp_index rfl rfl rfl rfl ix_2 ?_ | refine wp_index rfl rfl rfl rfl ix_3 ?_); simp only [Act.put, q1_, q2_, q3_])
      | (go_at_call 65; ((with_reducible refine (cX _).mono ?_); rintro e w ⟨rfl, hb⟩; replace H := H.call hb; clear hb))
      | (go_at_call 67; ((with_reducible refine (cX _).mono ?_); rintro e w ⟨rfl, hb⟩; replace H := H.call hb; clear hb))
      | (go_at_call 68; ((with_reducible refine (cX _).mono ?_); rintro e w ⟨rfl, hb⟩; replace H := H.call hb; clear hb))
      | (go_at_call 69; ((with_reducible refine (cX _).mono ?_); rintro e w ⟨rfl, hb⟩; replace H := H.call hb; clear hb))
      )
      all_goals
        go_roundw
        case rel => exact (Or.inr (Or.inr (Or.inl ⟨rfl, H.sub (List.nil_sublist _)⟩)))
        case measure => simp [intOf]
    · go_wp2_with (first
      | ((with_reducible show wpList _ _ _ (⟨_, .store 95 _ _, _, _, _, _⟩ :: _) _ _); refine H.xs ?_ (hv := set_v2 _ _ _ _); (intro w H; simp only [Act.put]))
      | ((with_reducible show wpList _ _ _ (⟨_, .box _ _, _, _, _, _⟩ :: _) _ _); refine H.xb ?_; (intro g w H; simp only [Act.put, q1_, q2_, q3_]))
      | ((with_reducible show wpList _ _ _ (⟨_, .alloc _, _, _, _, _⟩ :: _) _ _); refine H.xa ?_; (intro g w H; simp only [Act.put, q1_, q2_, q3_]))
      | ((with_reducible show wpList _ _ _ (⟨_, .load _ _, _, _, _, _⟩ :: _) _ _); (first | refine H.xl ?_ | refine H.xm ?_); simp only [Act.put, q1_, q2_, q3_])
      | ((with_reducible show wpList _ _ _ (⟨_, .store _ _ _, _, _, _, _⟩ :: _) _ _); (first | refine H.xs ?_ | refine H.xt ?_); (intro w H; simp only [Act.put]))
      | ((with_reducible show wpList _ _ _ (⟨_, .index _ _ _, _, _, _, _⟩ :: _) _ _); (first | refine wp_index rfl rfl rfl rfl ix_0 ?_ | refine wp_index rfl rfl rfl rfl ix_1 ?_ | refine wp_index rfl rfl rfl rfl ix_2 ?_ | refine wp_index rfl rfl rfl rfl ix_3 ?_); simp only [Act.put, q1_, q2_, q3_])
      | (go_at_call 65; ((with_reducible refine (cX _).mono ?_); rintro e w ⟨rfl, hb⟩; replace H := H.call hb; clear hb))
      | (go_at_call 67; ((with_reducible refine (cX _).mono ?_); rintro e w ⟨rfl, hb⟩; replace H := H.call hb; clear hb))
      | (go_at_call 68; ((with_reducible refine (cX _).mono ?_); rintro e w ⟨rfl, hb⟩; replace H := H.call hb; clear hb))
      | (go_at_call 69; ((with_reducible refine (cX _).mono ?_); rintro e w ⟨rfl, hb⟩; replace H := H.call hb; clear hb))
      )
      all_goals
        go_roundw
        case rel => exact (Or.inr (Or.inr (Or.inr ⟨rfl, H.sub (List.nil_sublist _)⟩)))
        case measure => simp [intOf]
    · go_wp2_with (first
      | ((with_reducible show wpList _ _ _ (⟨_, .store 95 _ _, _, _, _, _⟩ :: _) _ _); refine H.xs ?_ (hv := set_v2 _ _ _ _); (intro w H; simp only [Act.put]))
      | ((with_reducible show wpList _ _ _ (⟨_, .box _ _, _, _, _, _⟩ :: _) _ _); refine H.xb ?_; (intro g w H; simp only [Act.put, q1_, q2_, q3_]))
      | ((with_reducible show wpList _ _ _ (⟨_, .alloc _, _, _, _, _⟩ :: _) _ _); refine H.xa ?_; (intro g w H; simp only [Act.put, q1_, q2_, q3_]))
      | ((with_reducible show wpList _ _ _ (⟨_, .load _ _, _, _, _, _⟩ :: _) _ _); (first | refine H.xl ?_ | refine H.xm ?_); simp only [Act.put, q1_, q2_, q3_])
      | ((with_reducible show wpList _ _ _ (⟨_, .store _ _ _, _, _, _, _⟩ :: _) _ _); (first | refine H.xs ?_ | refine H.xt ?_); (intro w H; simp only [Act.put]))
      | ((with_reducible show wpList _ _ _ (⟨_, .index _ _ _, _, _, _, _⟩ :: _) _ _); (first | refine wp_index rfl rfl rfl rfl ix_0 ?_ | refine wp_index rfl rfl rfl rfl ix_1 ?_ | refine wp_index rfl rfl rfl rfl ix_2 ?_ | refine wp_index rfl rfl rfl rfl ix_3 ?_); simp only [Act.put, q1_, q2_, q3_])
      | (go_at_call 65; ((with_reducible refine (cX _).mono ?_); rintro e w ⟨rfl, hb⟩; replace H := H.call hb; clear hb))
      | (go_at_call 67; ((with_reducible refine (cX _).mono ?_); rintro e w ⟨rfl, hb⟩; replace H := H.call hb; clear hb))
      | (go_at_call 68; ((with_reducible refine (cX _).mono ?_); rintro e w ⟨rfl, hb⟩; replace H := H.call hb; clear hb))
      | (go_at_call 69; ((with_reducible refine (cX _).mono ?_); rintro e w ⟨rfl, hb⟩; replace H := H.call hb; clear hb))
      )
      all_goals
        go_ret3
        exact ⟨by rfl, H.below⟩
set_option maxHeartbeats 3200000 in
theorem fiNumber_no (k : Nat) (x : Nat) (w0 : World) (h0 : ((0 : Int) == (k : Int)) = false) (h1 : ((1 : Int) == (k : Int)) = false) (h2 : ((2 : Int) == (k : Int)) = false) (h3 : ((3 : Int) == (k : Int)) = false) :
    Calls Tryz.prog 17 #[.int .u8 k, .int .u64 x] w0 fun e w' => e = .returned (.tuple #[.bool false, .int .u64 0, .int .i64 2]) ∧ Below w0.heap.size w0 w' := by
  have H := Own.start w0
  go_enter Tryz.func17, Tryz.ntmps17
  go_wp2_with (first
    | ((with_reducible show wpList _ _ _ (⟨_, .store 95 _ _, _, _, _, _⟩ :: _) _ _); refine H.xs ?_ (hv := set_v2 _ _ _ _); (intro w H; simp only [Act.put]))
    | ((with_reducible show wpList _ _ _ (⟨_, .box _ _, _, _, _, _⟩ :: _) _ _); refine H.xb ?_; (intro g w H; simp only [Act.put, q1_, q2_, q3_]))
    | ((with_reducible show wpList _ _ _ (⟨_, .alloc _, _, _, _, _⟩ :: _) _ _); refine H.xa ?_; (intro g w H; simp only [Act.put, q1_, q2_, q3_]))
    | ((with_reducible show wpList _ _ _ (⟨_, .load _ _, _, _, _, _⟩ :: _) _ _); (first | refine H.xl ?_ | refine H.xm ?_); simp only [Act.put, q1_, q2_, q3_])
    | ((with_reducible show wpList _ _ _ (⟨_, .store _ _ _, _, _, _, _⟩ :: _) _ _); (first | refine H.xs ?_ | refine H.xt ?_); (intro w H; simp only [Act.put]))
    | ((with_reducible show wpList _ _ _ (⟨_, .index _ _ _, _, _, _, _⟩ :: _) _ _); (first | refine wp_index rfl rfl rfl rfl ix_0 ?_ | refine wp_index rfl rfl rfl rfl ix_1 ?_ | refine wp_index rfl rfl rfl rfl ix_2 ?_ | refine wp_index rfl rfl rfl rfl ix_3 ?_); simp only [Act.put, q1_, q2_, q3_])
    | ((first | go_at_call 65 | go_at_call 67 | go_at_call 68 | go_at_call 69); (with_reducible first | refine (cX _).mono ?_); rintro e w ⟨rfl, hb⟩; replace H := H.call hb; clear hb)
    )
  go_loopw [16] (fun i wr => (i = .int .i64 0 ∧ Own w0 wr []) ∨ (i = .int .i64 1 ∧ Own w0 wr []) ∨ (i = .int .i64 2 ∧ Own w0 wr []) ∨ (i = .int .i64 3 ∧ Own w0 wr []) ∨ (i = .int .i64 4 ∧ Own w0 wr [])) (fun i _ => 5 - (intOf i).toNat)
  case atStart => exact Or.inl ⟨rfl, H.sub (List.nil_sublist _)⟩
  case round =>
    clear H
    rcases hrel with ⟨rfl, H⟩ | ⟨rfl, H⟩ | ⟨rfl, H⟩ | ⟨rfl, H⟩ | ⟨rfl, H⟩
    · go_wp2_with (first
      | ((with_reducible show wpList _ _ _ (⟨_, .store 95 _ _, _, _, _, _⟩ :: _) _ _); refine H.xs ?_ (hv := set_v2 _ _ _ _); (intro w H; simp only [Act.put]))
      | ((with_reducible show wpList _ _ _ (⟨_, .box _ _, _, _, _, _⟩ :: _) _ _); refine H.xb ?_; (intro g w H; simp only [Act.put, q1_, q2_, q3_]))
      | ((with_reducible show wpList _ _ _ (⟨_, .alloc _, _, _, _, _⟩ :: _) _ _); refine H.xa ?_; (intro g w H; simp only [Act.put, q1_, q2_, q3_]))
      | ((with_reducible show wpList _ _ _ (⟨_, .load _ _, _, _, _, _⟩ :: _) _ _); (first | refine H.xl ?_ | refine H.xm ?_); simp only [Act.put, q1_, q2_, q3_])
      | ((with_reducible show wpList _ _ _ (⟨_, .store _ _ _, _, _, _, _⟩ :: _) _ _); (first | refine H.xs ?_ | refine H.xt ?_); (intro w H; simp only [Act.put]))
      | ((with_reducible show wpList _ _ _ (⟨_, .index _ _ _, _, _, _, _⟩ :: _) _ _); (first | refine wp_index rfl rfl rfl rfl ix_0 ?_ | refine wp_index rfl rfl rfl rfl ix_1 ?_ | refine wp_index rfl rfl rfl rfl ix_2 ?_ | refine wp_index rfl rfl rfl rfl ix_3 ?_); simp only [Act.put, q1_, q2_, q3_])
      | (go_at_call 65; ((with_reducible refine (cX _).mono ?_); rintro e w ⟨rfl, hb⟩; replace H := H.call hb; clear hb))
      | (go_at_call 67; ((with_reducible refine (cX _).mono ?_); rintro e w ⟨rfl, hb⟩; replace H := H.call hb; clear hb))
      | (go_at_call 68; ((with_reducible refine (cX _).mono ?_); rintro e w ⟨rfl, hb⟩; replace H := H.call hb; clear hb))
      | (go_at_call 69; ((with_reducible refine (cX _).mono ?_); rintro e w ⟨rfl, hb⟩; replace H := H.call hb; clear hb))
      )
      all_goals
        go_roundw
        case rel => exact (Or.inr (Or.inl ⟨rfl, H.sub (List.nil_sublist _)⟩))
        case measure => simp [intOf]
    · go_wp2_with (first
      | ((with_reducible show wpList _ _ _ (⟨_, .store 95 _ _, _, _, _, _⟩ :: _) _ _); refine H.xs ?_ (hv := set_v2 _ _ _ _); (intro w H; simp only [Act.put]))
      | ((with_reducible show wpList _ _ _ (⟨_, .box _ _, _, _, _, _⟩ :: _) _ _); refine H.xb ?_; (intro g w H; simp only [Act.put, q1_, q2_, q3_]))
      | ((with_reducible show wpList _ _ _ (⟨_, .alloc _, _, _, _, _⟩ :: _) _ _); refine H.xa ?_; (intro g w H; simp only [Act.put, q1_, q2_, q3_]))
      | ((with_reducible show wpList _ _ _ (⟨_, .load _ _, _, _, _, _⟩ :: _) _ _); (first | refine H.xl ?_ | refine H.xm ?_); simp only [Act.put, q1_, q2_, q3_])
      | ((with_reducible show wpList _ _ _ (⟨_, .store _ _ _, _, _, _, _⟩ :: _) _ _); (first | refine H.xs ?_ | refine H.xt ?_); (intro w H; simp only [Act.put]))
      | ((with_reducible show wpList _ _ _ (⟨_, .index _ _ _, _, _, _, _⟩ :: _) _ _); (first | refine wp_index rfl rfl rfl rfl ix_0 ?_ | refine wp_index rfl rfl rfl rfl ix_1 ?_ | refine wp_index rfl rfl rfl rfl ix_2 ?_ | refine wp_index rfl rfl rfl rfl ix_3 ?_); simp only [Act.put, q1_, q2_, q3_])
      | (go_at_call 65; ((with_reducible refine (cX _).mono ?_); rintro e w ⟨rfl, hb⟩; replace H := H.call hb; clear hb))
      | (go_at_call 67; ((with_reducible refine (cX _).mono ?_); rintro e w ⟨rfl, hb⟩; replace H := H.call hb; clear hb))
      | (go_at_call 68; ((with_reducible refine (cX _).mono ?_); rintro e w ⟨rfl, hb⟩; replace H := H.call hb; clear hb))
      | (go_at_call 69; ((with_reducible refine (cX _).mono ?_); rintro e w ⟨rfl, hb⟩; replace H := H.call hb; clear hb))
      )
      all_goals
        go_roundw
        case rel => exact (Or.inr (Or.inr (Or.inl ⟨rfl, H.sub (List.nil_sublist _)⟩)))
        case measure => simp [intOf]
    · go_wp2_with (first
      | ((with_reducible show wpList _ _ _ (⟨_, .store 95 _ _, _, _, _, _⟩ :: _) _ _); refine H.xs ?_ (hv := set_v2 _ _ _ _); (intro w H; simp only [Act.put]))
      | ((with_reducible show wpList _ _ _ (⟨_, .box _ _, _, _, _, _⟩ :: _) _ _); refine H.xb ?_; (intro g w H; simp only [Act.put, q1_, q2_, q3_]))
      | ((with_reducible show wpList _ _ _ (⟨_, .alloc _, _, _, _, _⟩ :: _) _ _); refine H.xa ?_; (intro g w H; simp only [Act.put, q1_, q2_, q3_]))
      | ((with_reducible show wpList _ _ _ (⟨_, .load _ _, _, _, _, _⟩ :: _) _ _); (first | refine H.xl ?_ | refine H.xm ?_); simp only [Act.put, q1_, q2_, q3_])
      | ((with_reducible show wpList _ _ _ (⟨_, .store _ _ _, _, _, _, _⟩ :: _) _ _); (first | refine H.xs ?_ | refine H.xt ?_); (intro w H; simp only [Act.put]))
      | ((with_reducible show wpList _ _ _ (⟨_, .index _ _ _, _, _, _, _⟩ :: _) _ _); (first | refine wp_index rfl rfl rfl rfl ix_0 ?_ | refine wp_index rfl rfl rfl rfl ix_1 ?_ | refine wp_index rfl rfl rfl rfl ix_2 ?_ | refine wp_index rfl rfl rfl rfl ix_3 ?_); simp only [Act.put, q1_, q2_, q3_])
      | (go_at_call 65; ((with_reducible refine (cX _).mono ?_); rintro e w ⟨rfl, hb⟩; replace H := H.call hb; clear hb))
      | (go_at_call 67; ((with_reducible refine (cX _).mono ?_); rintro e w ⟨rfl, hb⟩; replace H := H.call hb; clear hb))
      | (go_at_call 68; ((with_reducible refine (cX _).mono ?_); rintro e w ⟨rfl, hb⟩; replace H := H.call hb; clear hb))
      | (go_at_call 69; ((with_reducible refine (cX _).mono ?_); rintro e w ⟨rfl, hb⟩; replace H := H.call hb; clear hb))
      )
      all_goals
        go_roundw
        case rel => exact (Or.inr (Or.inr (Or.inr (Or.inl ⟨rfl, H.sub (List.nil_sublist _)⟩))))
        case measure => simp [intOf]
    · go_wp2_with (first
      | ((with_reducible show wpList _ _ _ (⟨_, .store 95 _ _, _, _, _, _⟩ :: _) _ _); refine H.xs ?_ (hv := set_v2 _ _ _ _); (intro w H; simp only [Act.put]))
      | ((with_reducible show wpList _ _ _ (⟨_, .box _ _, _, _, _, _⟩ :: _) _ _); refine H.xb ?_; (intro g w H; simp only [Act.put, q1_, q2_, q3_]))
      | ((with_reducible show wpList _ _ _ (⟨_, .alloc _, _, _, _, _⟩ :: _) _ _); refine H.xa ?_; (intro g w H; simp only [Act.put, q1_, q2_, q3_]))
      | ((with_reducible show wpList _ _ _ (⟨_, .load _ _, _, _, _, _⟩ :: _) _ _); (first | refine H.xl ?_ | refine H.xm ?_); simp only [Act.put, q1_, q2_, q3_])
      | ((with_reducible show wpList _ _ _ (⟨_, .store _ _ _, _, _, _, _⟩ :: _) _ _); (first | refine H.xs ?_ | refine H.xt ?_); (intro w H; simp only [Act.put]))
      | ((with_reducible show wpList _ _ _ (⟨_, .index _ _ _, _, _, _, _⟩ :: _) _ _); (first | refine wp_index rfl rfl rfl rfl ix_0 ?_ | refine wp_index rfl rfl rfl rfl ix_1 ?_ | refine wp_index rfl rfl rfl rfl ix_2 ?_ | refine wp_index rfl rfl rfl rfl ix_3 ?_); simp only [Act.put, q1_, q2_, q3_])
      | (go_at_call 65; ((with_reducible refine (cX _).mono ?_); rintro e w ⟨rfl, hb⟩; replace H := H.call hb; clear hb))
      | (go_at_call 67; ((with_reducible refine (cX _).mono ?_); rintro e w ⟨rfl, hb⟩; replace H := H.call hb; clear hb))
      | (go_at_call 68; ((with_reducible refine (cX _).mono ?_); rintro e w ⟨rfl, hb⟩; replace H := H.call hb; clear hb))
      | (go_at_call 69; ((with_reducible refine (cX _).mono ?_); rintro e w ⟨rfl, hb⟩; replace H := H.call hb; clear hb))
      )
      all_goals
        go_roundw
        case rel => exact (Or.inr (Or.inr (Or.inr (Or.inr ⟨rfl, H.sub (List.nil_sublist _)⟩))))
        case measure => simp [intOf]
    · go_wp2_with (first
      | ((with_reducible show wpList _ _ _ (⟨_, .store 95 _ _, _, _, _, _⟩ :: _) _ _); refine H.xs ?_ (hv := set_v2 _ _ _ _); (intro w H; simp only [Act.put]))
      | ((with_reducible show wpList _ _ _ (⟨_, .box _ _, _, _, _, _⟩ :: _) _ _); refine H.xb ?_; (intro g w H; simp only [Act.put, q1_, q2_, q3_]))
      | ((with_reducible show wpList _ _ _ (⟨_, .alloc _, _, _, _, _⟩ :: _) _ _); refine H.xa ?_; (intro g w H; simp only [Act.put, q1_, q2_, q3_]))
      | ((with_reducible show wpList _ _ _ (⟨_, .load _ _, _, _, _, _⟩ :: _) _ _); (first | refine H.xl ?_ | refine H.xm ?_); simp only [Act.put, q1_, q2_, q3_])
      | ((with_reducible show wpList _ _ _ (⟨_, .store _ _ _, _, _, _, _⟩ :: _) _ _); (first | refine H.xs ?_ | refine H.xt ?_); (intro w H; simp only [Act.put]))
      | ((with_reducible show wpList _ _ _ (⟨_, .index _ _ _, _, _, _, _⟩ :: _) _ _); (first | refine wp_index rfl rfl rfl rfl ix_0 ?_ | refine wp_index rfl rfl rfl rfl ix_1 ?_ | refine wp_index rfl rfl rfl rfl ix_2 ?_ | refine wp_index rfl rfl rfl rfl ix_3 ?_); simp only [Act.put, q1_, q2_, q3_])
      | (go_at_call 65; ((with_reducible refine (cX _).mono ?_); rintro e w ⟨rfl, hb⟩; replace H := H.call hb; clear hb))
      | (go_at_call 67; ((with_reducible refine (cX _).mono ?_); rintro e w ⟨rfl, hb⟩; replace H := H.call hb; clear hb))
      | (go_at_call 68; ((with_reducible refine (cX _).mono ?_); rintro e w ⟨rfl, hb⟩; replace H := H.call hb; clear hb))
      | (go_at_call 69; ((with_reducible refine (cX _).mono ?_); rintro e w ⟨rfl, hb⟩; replace H := H.call hb; clear hb))
      )
      all_goals
        go_ret3
        exact ⟨by rfl, H.below⟩
open Go.RowKit
theorem odd_lim (n : Nat) : (Go.bits .and .u64 (limb n 0) 1 == 1) = decide (n % 2 = 1) := by
  have h1 : (1 : Int) = limb 1 0 := rfl
  rw [h1, limb_and, show n &&& 1 = n % 2 from Nat.and_one_is_mod n, ← h1]
  unfold limb limbN
  rw [Nat.mul_zero, Nat.pow_zero, Nat.div_one, Nat.mod_eq_of_lt (by omega), Bool.eq_iff_iff, beq_iff_eq, decide_eq_true_iff]
  omega
theorem halfN_in (a n : Nat) : halfN a n = -1 ∨ halfN a n = 0 ∨ halfN a n = 1 := by
  unfold halfN
  split
  · simp
  · split
    · split <;> simp
    · simp
theorem roundGrid_any (m s : Nat) (e at_ : Int) (neg mo : Bool) (w : World) (hT : Tab w) (hm : m < 256) (hs : s < top6) (h1 : -2000000 ≤ e) (h2 : e ≤ 2000000) (h3 : -2000000 ≤ at_) (h4 : at_ ≤ 2000000) (hf : e - at_ ≤ 384) :
    Calls Tryz.prog 144 #[.int .u8 m, RV neg s e mo, .int .i64 at_] w fun e' w' => e' = .returned (.tuple #[W (gridN m neg s e mo at_).1, .bool (gridN m neg s e mo at_).2]) ∧ Below w.heap.size w w' := by
  by_cases hn : at_ ≤ e
  · have cL := fun w => wideLeft_any s (-(at_ - e)) w hs
    have hc : clip (-(at_ - e)) = (e - at_).toNat := by unfold clip; omega
    rw [hc] at cL
    have := roundGrid_up m s _ e at_ (at_ - e) neg mo _ w hT h1 h2 h3 h4 rfl (by omega) cL
    simp only [gridN, if_pos hn]
    exact this
  · have cC := fun w hT => jamCut_any s (at_ - e) w hs hT
    have hin := halfN_in s (at_ - e).toNat
    have cR := fun (half : Int) (hh : half = -1 ∨ half = 0 ∨ half = 1) (ex : Bool) w => roundUp_any m neg (Go.bits .and .u64 (limb (s / 2 ^ (at_ - e).toNat) 0) 1 == 1) half ex w hm hh
    simp only [gridN, if_neg hn]
    cases mo with
    | false =>
      simp only [Bool.false_and, cond_false, Bool.not_false, Bool.and_true]
      have cR' := cR _ hin (decide (s % 2 ^ (at_ - e).toNat = 0))
      rw [← odd_lim]
      cases hu : upB m neg (Go.bits .and .u64 (limb (s / 2 ^ (at_ - e).toNat) 0) 1 == 1) (halfN s (at_ - e).toNat) (decide (s % 2 ^ (at_ - e).toNat = 0)) with
      | true =>
        rw [hu] at cR'
        exact roundGrid_f_t m s _ e at_ (at_ - e) _ neg _ w hT h1 h2 h3 h4 rfl (by omega) cC cR'
      | false =>
        rw [hu] at cR'
        exact roundGrid_f_f m s _ e at_ (at_ - e) _ neg _ w hT h1 h2 h3 h4 rfl (by omega) cC cR'
    | true =>
      simp only [Bool.true_and, Bool.not_true, Bool.and_false]
      rw [← odd_lim]
      by_cases hz : halfN s (at_ - e).toNat = 0
      · have hz' : (halfN s (at_ - e).toNat == 0) = true := by rw [hz]; rfl
        have cR' := cR 1 (by omega) false
        rw [decide_eq_true hz, cond_true]
        cases hu : upB m neg (Go.bits .and .u64 (limb (s / 2 ^ (at_ - e).toNat) 0) 1 == 1) 1 false with
        | true =>
          rw [hu] at cR'
          exact roundGrid_tz_t m s _ e at_ (at_ - e) _ neg _ w hT h1 h2 h3 h4 rfl (by omega) hz' cC cR'
        | false =>
          rw [hu] at cR'
          exact roundGrid_tz_f m s _ e at_ (at_ - e) _ neg _ w hT h1 h2 h3 h4 rfl (by omega) hz' cC cR'
      · have hz' : (halfN s (at_ - e).toNat == 0) = false := by rw [beq_eq_false_iff_ne]; exact hz
        have cR' := cR _ hin false
        rw [decide_eq_false hz, cond_false]
        cases hu : upB m neg (Go.bits .and .u64 (limb (s / 2 ^ (at_ - e).toNat) 0) 1 == 1) (halfN s (at_ - e).toNat) false with
        | true =>
          rw [hu] at cR'
          exact roundGrid_tn_t m s _ e at_ (at_ - e) _ neg _ w hT h1 h2 h3 h4 rfl (by omega) hz' cC cR'
        | false =>
          rw [hu] at cR'
          exact roundGrid_tn_f m s _ e at_ (at_ - e) _ neg _ w hT h1 h2 h3 h4 rfl (by omega) hz' cC cR'
end Go.Proofs.YtgmhmpflmgfcdaaGreatDoor
