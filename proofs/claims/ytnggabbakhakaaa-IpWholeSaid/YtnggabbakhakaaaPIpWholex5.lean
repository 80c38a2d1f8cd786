-- Laid by this claim's own program over the print's words.
import Derived.Test.YtnggabbakhakaaaPIpWholex0
import Derived.Test.YtnggabbakhakaaaPIpWholex1
import Derived.Test.YtnggabbakhakaaaPIpWholex2
import Derived.Test.YtnggabbakhakaaaPIpWholex3
import Derived.Test.YtnggabbakhakaaaPIpWholex4
namespace Go.Proofs.Ytnggabbakhakaaa.PIpWhole
open Go.RowKit Go.Proofs.YtnggabbakhakaaaW.PrintWords Go.Proofs.YtnggabbakhakaaaW.PrintLast Go.Proofs.YtnggabbakhakaaaW.PrintMore
attribute [local go_sem] max2_int min2_int max_two min_two max_three min_three max_four min_four max_five min_five extract_cut tmod_nat_lit   -- for this text's walks alone
set_option linter.unusedVariables false
set_option linter.unusedSimpArgs false

/-! ### ip_Encode: function 8 -/
mutual
def ip_Encode.j0 : Nat → Int → Int → Int → Int → Int → Int → Int → Bool → Bool → ByteArray → ByteArray → Option (ByteArray × Int)
 | 0, _, _, _, _, _, _, _, _, _, _, _ => none
 | k + 1, x5, x136000, x136001, x136002, x136003, x136004, x136005, x136006, x136007, x136008, x136009 => if x136006 = true then (ip_Encode.j1 k (Go.bits .or .i64 x5 8192) x136000 x136001 x136002 x136003 x136004 x136005 x136006 x136007 x136008 x136009) else (ip_Encode.j1 k x5 x136000 x136001 x136002 x136003 x136004 x136005 x136006 x136007 x136008 x136009)
def ip_Encode.j1 : Nat → Int → Int → Int → Int → Int → Int → Int → Bool → Bool → ByteArray → ByteArray → Option (ByteArray × Int)
 | 0, _, _, _, _, _, _, _, _, _, _, _ => none
 | k + 1, x5, x136000, x136001, x136002, x136003, x136004, x136005, x136006, x136007, x136008, x136009 => (ip_head.f x136000 x136001 x136002 x136003 x136004 x136005 x136006 x136007 x136008 x136009).bind fun t137 => ((ip_num.f k (Go.bits .or .i64 64 (wrap64 (Int.tdiv t137 4))) 1).bind fun t138 => ((ip_num.f k 0 1).bind fun t139 => (if t138.size + t139.size ≤ 9223372036854775807 then ((ip_head.f x136000 x136001 x136002 x136003 x136004 x136005 x136006 x136007 x136008 x136009).bind fun t140 => ((ip_num.f k (wrap64 (t140 + (x136009.size : Int))) 2).bind fun t141 => (if (t138 ++ t139).size + t141.size ≤ 9223372036854775807 then ((ip_num.f k x136004 2).bind fun t142 => (if ((t138 ++ t139) ++ t141).size + t142.size ≤ 9223372036854775807 then ((ip_num.f k x5 2).bind fun t143 => (if (((t138 ++ t139) ++ t141) ++ t142).size + t143.size ≤ 9223372036854775807 then ((ip_num.f k x136002 1).bind fun t144 => (if ((((t138 ++ t139) ++ t141) ++ t142) ++ t143).size + t144.size ≤ 9223372036854775807 then ((ip_num.f k x136003 1).bind fun t145 => (if (((((t138 ++ t139) ++ t141) ++ t142) ++ t143) ++ t144).size + t145.size ≤ 9223372036854775807 then ((ip_num.f k 0 2).bind fun t146 => (if ((((((t138 ++ t139) ++ t141) ++ t142) ++ t143) ++ t144) ++ t145).size + t146.size ≤ 9223372036854775807 then ((ip_num.f k x136000 4).bind fun t147 => (if (((((((t138 ++ t139) ++ t141) ++ t142) ++ t143) ++ t144) ++ t145) ++ t146).size + t147.size ≤ 9223372036854775807 then ((ip_num.f k x136001 4).bind fun t148 => (if ((((((((t138 ++ t139) ++ t141) ++ t142) ++ t143) ++ t144) ++ t145) ++ t146) ++ t147).size + t148.size ≤ 9223372036854775807 then (if (((((((((t138 ++ t139) ++ t141) ++ t142) ++ t143) ++ t144) ++ t145) ++ t146) ++ t147) ++ t148).size + x136008.size ≤ 9223372036854775807 then ((sum_Seal.f k ((((((((((t138 ++ t139) ++ t141) ++ t142) ++ t143) ++ t144) ++ t145) ++ t146) ++ t147) ++ t148) ++ x136008) 10).bind fun bt149 => (if bt149.1.size + x136009.size ≤ 9223372036854775807 then (some (bt149.1 ++ x136009, bt149.2)) else (none))) else (none)) else (none))) else (none))) else (none))) else (none))) else (none))) else (none))) else (none))) else (none)))) else (none))))
end
def ip_Encode.f (k : Nat) (a0_0 : Int) (a0_1 : Int) (a0_2 : Int) (a0_3 : Int) (a0_4 : Int) (a0_5 : Int) (a0_6 : Bool) (a0_7 : Bool) (a0_8 : ByteArray) (a0_9 : ByteArray) : Option (ByteArray × Int) := (ip_Check.f k a0_0 a0_1 a0_2 a0_3 a0_4 a0_5 a0_6 a0_7 a0_8 a0_9).bind fun t136 => (if t136 = 0 then (if a0_7 = true then (ip_Encode.j0 k (Go.bits .or .i64 a0_5 16384) a0_0 a0_1 a0_2 a0_3 a0_4 a0_5 a0_6 a0_7 a0_8 a0_9) else (ip_Encode.j0 k a0_5 a0_0 a0_1 a0_2 a0_3 a0_4 a0_5 a0_6 a0_7 a0_8 a0_9)) else (some ((⟨#[]⟩ : ByteArray), t136)))
theorem ip_Encode.mono_l : ∀ k, (∀ y0 y1 y2 y3 y4 y5 y6 y7 y8 y9 y10, LeO (ip_Encode.j0 k y0 y1 y2 y3 y4 y5 y6 y7 y8 y9 y10) (ip_Encode.j0 (k + 1) y0 y1 y2 y3 y4 y5 y6 y7 y8 y9 y10)) ∧ (∀ y0 y1 y2 y3 y4 y5 y6 y7 y8 y9 y10, LeO (ip_Encode.j1 k y0 y1 y2 y3 y4 y5 y6 y7 y8 y9 y10) (ip_Encode.j1 (k + 1) y0 y1 y2 y3 y4 y5 y6 y7 y8 y9 y10))
 | 0 => ⟨fun _ _ _ _ _ _ _ _ _ _ _ r h => by simp [ip_Encode.j0] at h, fun _ _ _ _ _ _ _ _ _ _ _ r h => by simp [ip_Encode.j1] at h⟩
 | k + 1 => by
  obtain ⟨ih0, ih1⟩ := ip_Encode.mono_l k
  refine ⟨?_, ?_⟩
  ·intro y0 y1 y2 y3 y4 y5 y6 y7 y8 y9 y10
   unfold ip_Encode.j0
   repeat' first
   | (with_reducible exact ih0 _ _ _ _ _ _ _ _ _ _ _)
   | (with_reducible exact ih1 _ _ _ _ _ _ _ _ _ _ _)
   | (with_reducible exact ip_Check.mono _ _ _ _ _ _ _ _ _ _ _)
   | (with_reducible exact ip_num.mono _ _ _)
   | (with_reducible exact sum_Seal.mono _ _ _)
   | (with_reducible exact LeO.refl _)
   | (with_reducible exact LeO.none _)
   | (with_reducible refine LeO.ite ?_ ?_)
   | (with_reducible refine LeO.bind ?_ (fun _ => ?_))
   | exact ih0 _ _ _ _ _ _ _ _ _ _ _
   | exact ih1 _ _ _ _ _ _ _ _ _ _ _
   | exact ip_Check.mono _ _ _ _ _ _ _ _ _ _ _
   | exact ip_num.mono _ _ _
   | exact sum_Seal.mono _ _ _
   | exact LeO.none _
   | refine LeO.ite ?_ ?_
   | refine LeO.bind ?_ (fun _ => ?_)
  ·intro y0 y1 y2 y3 y4 y5 y6 y7 y8 y9 y10
   unfold ip_Encode.j1
   repeat' first
   | (with_reducible exact ih0 _ _ _ _ _ _ _ _ _ _ _)
   | (with_reducible exact ih1 _ _ _ _ _ _ _ _ _ _ _)
   | (with_reducible exact ip_Check.mono _ _ _ _ _ _ _ _ _ _ _)
   | (with_reducible exact ip_num.mono _ _ _)
   | (with_reducible exact sum_Seal.mono _ _ _)
   | (with_reducible exact LeO.refl _)
   | (with_reducible exact LeO.none _)
   | (with_reducible refine LeO.ite ?_ ?_)
   | (with_reducible refine LeO.bind ?_ (fun _ => ?_))
   | exact ih0 _ _ _ _ _ _ _ _ _ _ _
   | exact ih1 _ _ _ _ _ _ _ _ _ _ _
   | exact ip_Check.mono _ _ _ _ _ _ _ _ _ _ _
   | exact ip_num.mono _ _ _
   | exact sum_Seal.mono _ _ _
   | exact LeO.none _
   | refine LeO.ite ?_ ?_
   | refine LeO.bind ?_ (fun _ => ?_)
theorem ip_Encode.mono : ∀ a0 a1 a2 a3 a4 a5 a6 a7 a8 a9 k, LeO (ip_Encode.f k a0 a1 a2 a3 a4 a5 a6 a7 a8 a9) (ip_Encode.f (k + 1) a0 a1 a2 a3 a4 a5 a6 a7 a8 a9) := by
 intro a0 a1 a2 a3 a4 a5 a6 a7 a8 a9 k
 obtain ⟨ih0, ih1⟩ := ip_Encode.mono_l k
 unfold ip_Encode.f
 repeat' first
   | (with_reducible exact ih0 _ _ _ _ _ _ _ _ _ _ _)
   | (with_reducible exact ih1 _ _ _ _ _ _ _ _ _ _ _)
   | (with_reducible exact ip_Check.mono _ _ _ _ _ _ _ _ _ _ _)
   | (with_reducible exact ip_num.mono _ _ _)
   | (with_reducible exact sum_Seal.mono _ _ _)
   | (with_reducible exact LeO.refl _)
   | (with_reducible exact LeO.none _)
   | (with_reducible refine LeO.ite ?_ ?_)
   | (with_reducible refine LeO.bind ?_ (fun _ => ?_))
   | exact ih0 _ _ _ _ _ _ _ _ _ _ _
   | exact ih1 _ _ _ _ _ _ _ _ _ _ _
   | exact ip_Check.mono _ _ _ _ _ _ _ _ _ _ _
   | exact ip_num.mono _ _ _
   | exact sum_Seal.mono _ _ _
   | exact LeO.none _
   | refine LeO.ite ?_ ?_
   | refine LeO.bind ?_ (fun _ => ?_)
def ip_Encode.T9 : Bool × List (List Nat × List Nat) := (true, [([], []), ([0], [0]), ([1], [1]), ([2], [2]), ([3, 1], [3]), ([4], []), ([4, 5], [4, 5]), ([], []), ([7, 5], [7]), ([], []), ([9], [9]), ([10], [10]), ([8, 11], [8, 11]), ([12, 8], [12]), ([6, 13], [6, 13]), ([], []), ([15], [15]), ([16, 13], [16]), ([14, 17], [14, 17]), ([], []), ([19, 17], [19]), ([18, 20], [18, 20]), ([], []), ([22], [22]), ([23, 20], [23]), ([21, 24], [21, 24]), ([], []), ([26], [26]), ([27, 24], [27]), ([25, 28], [25, 28]), ([28], []), ([29, 30], [29, 30]), ([], []), ([32], [32]), ([33, 30], [33]), ([31, 34], [31, 34]), ([], []), ([36], [36]), ([37, 34], [37]), ([35, 38], [35, 38]), ([], []), ([40], [40]), ([39, 41], [39, 41]), ([42, 38, 0, 1, 2, 3, 4, 5, 6, 7, 8, 9, 10, 11, 12, 13, 14, 15, 16, 17, 18, 19, 20, 21, 22, 23, 24, 25, 26, 27, 28, 29, 30, 31, 32, 33, 34, 35, 36, 37, 38, 39, 40, 41, 42], [42])])
def ip_Encode.B9 : List Nat := [0, 1, 3, 7, 15, 31, 63, 0, 191, 0, 512, 1536, 4031, 8127, 16383, 0, 32768, 114623, 262143, 0, 769983, 2097151, 0, 4194304, 14401471, 33554431, 0, 67108864, 232505279, 536870911, 500940735, 2147483647, 0, 4294967296, 14459584447, 34359738367, 0, 68719476736, 237797883839, 549755813887, 0, 1099511627776, 4398046511103, 8796093022207]
theorem ip_Encode.tab9 : rtab .any (opsOf Try.f8 9) = ip_Encode.T9 := by kernel_rfl
theorem ip_Encode.bits9 : waitsOk ip_Encode.T9.2 ip_Encode.B9 = true := by kernel_rfl
set_option maxHeartbeats 8000000 in
set_option maxRecDepth 100000 in
theorem ip_Encode.calls (k : Nat) (a0_0 : Int) (a0_1 : Int) (a0_2 : Int) (a0_3 : Int) (a0_4 : Int) (a0_5 : Int) (a0_6 : Bool) (a0_7 : Bool) (a0_8 : ByteArray) (a0_9 : ByteArray) (r1 : ByteArray) (r2 : Int) (w : World) (h : ip_Encode.f k a0_0 a0_1 a0_2 a0_3 a0_4 a0_5 a0_6 a0_7 a0_8 a0_9 = some (r1, r2)) :
  Calls Try.prog 8 #[.agg #[.int .i64 a0_0, .int .i64 a0_1, .int .i64 a0_2, .int .i64 a0_3, .int .i64 a0_4, .int .i64 a0_5, .bool a0_6, .bool a0_7, .string a0_8, .string a0_9]] w fun e w' => e = .returned (.tuple #[.string r1, .int .i64 r2]) ∧ Below w.heap.size w w' := by
 have hu23 := Try.underlying23
 have HB := Aside0.mk (Below.refl w.heap.size w)
 have H : ((ip_Check.f k a0_0 a0_1 a0_2 a0_3 a0_4 a0_5 a0_6 a0_7 a0_8 a0_9).bind fun t136 => (if t136 = 0 then (if a0_7 = true then (ip_Encode.j0 k (Go.bits .or .i64 a0_5 16384) a0_0 a0_1 a0_2 a0_3 a0_4 a0_5 a0_6 a0_7 a0_8 a0_9) else (ip_Encode.j0 k a0_5 a0_0 a0_1 a0_2 a0_3 a0_4 a0_5 a0_6 a0_7 a0_8 a0_9)) else (some ((⟨#[]⟩ : ByteArray), t136)))) = some (r1, r2) := h
 clear h
 replace H := Option.bind_eq_some_iff.mp H
 obtain ⟨t136, A20, H⟩ := H
 replace H : (if t136 = 0 then (if a0_7 = true then (ip_Encode.j0 k (Go.bits .or .i64 a0_5 16384) a0_0 a0_1 a0_2 a0_3 a0_4 a0_5 a0_6 a0_7 a0_8 a0_9) else (ip_Encode.j0 k a0_5 a0_0 a0_1 a0_2 a0_3 a0_4 a0_5 a0_6 a0_7 a0_8 a0_9)) else (some ((⟨#[]⟩ : ByteArray), t136))) = some (r1, r2) := H
 have A2 := Aside0.mk A20
 clear A20
 by_cases c3 : t136 = 0
 ·rw [if_pos c3] at H
  have c3b0 : (t136 == 0) = true := beq_iff_eq.mpr c3
  have c3b1 : (t136 != 0) = false := bne_eq_false_iff_eq.mpr c3
  clear c3
  have HC4 := Aside0.mk H
  clear H
  go_enter Try.func8, Try.ntmps8
  go_upto_if 16 with (first | ((with_reducible refine gate_dst (N := 1) rfl ?_); refine box_event ?hg (N := 1) ?hd (cs := #[.int .i64 a0_0, .int .i64 a0_1, .int .i64 a0_2, .int .i64 a0_3, .int .i64 a0_4, .int .i64 a0_5, .bool a0_6, .bool a0_7, .string a0_8, .string a0_9]) (t := 23) ?hr ?_; (case hd => rfl); (case hg => rfl); (case hr => first | (go_simp; done) | (go_simp; rfl)); intro gb135 hg w5 hbox hb; have n0_ := Aside0.mk (below_step (by repeat (first | (with_reducible first | exact HB.out | apply below_alloc | apply pw_below_drewN | apply below_drew1) | exact HB.out)) hb); have n1_ := Aside0.mk (hbox); have n2_ := Aside0.mk ((by rw [hg]; exact (below_size (by repeat (first | (with_reducible first | exact HB.out | apply below_alloc | apply pw_below_drewN | apply below_drew1) | exact HB.out))) : w.heap.size ≤ gb135)); have n3_ := Aside0.mk ((by rw [hg]; exact (below_size (by repeat (first | (with_reducible first | exact HB.out | apply below_alloc | apply pw_below_drewN | apply below_drew1) | exact HB.out))) : w.heap.size ≤ gb135)); clear HB; have HB := n0_; have BK135 := n1_; have GW135 := n2_; have GE135 := n3_; clear n0_ n1_ n2_ n3_; clear hb hbox hg; obtain ⟨hcz6_0, hcz6_1, hcz6_2, hcz6_3, hcz6_4, hcz6_5, hcz6_6, hcz6_7, hcz6_8, hcz6_9⟩ := blk_cells10 BK135.out; obtain ⟨hfz6_0, hfz6_1, hfz6_2, hfz6_3, hfz6_4, hfz6_5, hfz6_6, hfz6_7, hfz6_8, hfz6_9⟩ := blk_frozens10 BK135.out) | ((with_reducible refine gate_callee (f := 12) rfl ?_); refine goesL_ (some 9) rfl rfl Try.func12 (by kernel_rfl) rfl #[.agg #[.int .i64 a0_0, .int .i64 a0_1, .int .i64 a0_2, .int .i64 a0_3, .int .i64 a0_4, .int .i64 a0_5, .bool a0_6, .bool a0_7, .string a0_8, .string a0_9]] rfl (by (try simp only [List.map_toArray, List.map_cons, List.map_nil]); first | done | rfl | (simp only [List.length_drop, List.length_take]; rfl)) ?_; (with_reducible refine (ip_Check.calls k a0_0 a0_1 a0_2 a0_3 a0_4 a0_5 a0_6 a0_7 a0_8 a0_9 t136 _ A2.out).mono ?_); rintro e w7 ⟨rfl, hb⟩; refine ⟨_, rfl, ?_⟩; have n0_ := Aside0.mk (blk_below (g := gb135) (by (with_reducible repeat (first | apply blk_drewN | apply blk_drew | apply blk_alloc)); exact BK135.out) hb); have n1_ := Aside0.mk (below_step (by repeat (first | (with_reducible first | exact HB.out | apply below_alloc | apply pw_below_drewN | apply below_drew1 | refine below_set ?_ GE135.out) | exact HB.out)) hb); clear BK135; clear HB; have BK135 := n0_; have HB := n1_; clear n0_ n1_; (try clear hb); (try clear hb2); (try clear hk); (try clear hi); obtain ⟨hcz8_0, hcz8_1, hcz8_2, hcz8_3, hcz8_4, hcz8_5, hcz8_6, hcz8_7, hcz8_8, hcz8_9⟩ := blk_cells10 BK135.out; obtain ⟨hfz8_0, hfz8_1, hfz8_2, hfz8_3, hfz8_4, hfz8_5, hfz8_6, hfz8_7, hfz8_8, hfz8_9⟩ := blk_frozens10 BK135.out))
  (try simp only [Act.put, List.setIfInBounds_toArray, List.set_cons_zero, List.set_cons_succ])
  go_cut [5] (fun v5 wc => ∃ (kq : Nat) (x5_3 : Int), v5 = .int .i64 x5_3 ∧ Aside0 (ip_Encode.j0 kq x5_3 a0_0 a0_1 a0_2 a0_3 a0_4 a0_5 a0_6 a0_7 a0_8 a0_9 = some (r1, r2)) ∧ Aside0 (kq ≤ k) ∧ Aside0 (wc.heap[gb135]? = some (.cells #[.int .i64 a0_0, .int .i64 a0_1, .int .i64 a0_2, .int .i64 a0_3, .int .i64 a0_4, .int .i64 a0_5, .bool a0_6, .bool a0_7, .string a0_8, .string a0_9] 23 (0, 0))) ∧ Aside0 (Below w.heap.size w wc))
  case first =>
   have H := HC4.out
   clear HC4
   by_cases c9 : a0_7 = true
   ·subst c9
    have H1 : (ip_Encode.j0 k (Go.bits .or .i64 a0_5 16384) a0_0 a0_1 a0_2 a0_3 a0_4 a0_5 a0_6 true a0_8 a0_9) = some (r1, r2) := by rw [if_pos rfl] at H; exact H
    clear H
    have H := H1
    clear H1
    have H' := Aside0.mk H
    clear H
    go_wp2_with (first | ((with_reducible refine gate_load (t := 23) rfl ?_); refine gate_wanted ?hw (fun hw_ => ?_); (case hw => first | rfl | (go_simp; done)); refine load_big hw_ 23 _ rfl _ rfl 23 _ (0, 0) _ (by (with_reducible repeat (first | apply blk_drewN | apply blk_drew | apply blk_alloc | (apply blk_farA; case hp => assumption) | apply blk_put)); apply Aside0.out; assumption; all_goals (simp only [List.setIfInBounds_toArray, List.set_cons_zero, List.set_cons_succ]; try rfl)) Try.underlying23 rfl (by kernel_rfl) ?_; clear hw_; simp only [Act.put, List.setIfInBounds_toArray, List.set_cons_zero, List.set_cons_succ]) | ((with_reducible refine gate_store (t := 23) rfl ?_); refine store_big rfl 23 _ _ rfl _ _ rfl rfl 23 _ (by (with_reducible repeat (first | apply blk_drewN | apply blk_drew | apply blk_alloc | (apply blk_farA; case hp => assumption) | apply blk_put)); apply Aside0.out; assumption; all_goals (simp only [List.setIfInBounds_toArray, List.set_cons_zero, List.set_cons_succ]; try rfl)) (by kernel_rfl) (by rfl) (by rfl) _ (by simp only [World.setCells, Nat.reduceAdd]; rfl) ?_; simp only [Act.put, List.setIfInBounds_toArray, List.set_cons_zero, List.set_cons_succ]) | go_in)
    go_meet
    case rel => exact ⟨_, (Go.bits .or .i64 a0_5 16384), (by first | rfl | (simp; done) | (simp [*]; done)), H', ⟨by first | omega | exact Nat.le_refl _⟩, ⟨by (with_reducible repeat (first | refine blk_drewN ?_ _ | refine blk_drew ?_ | refine blk_alloc ?_ _)); exact BK135.out⟩, ⟨by repeat (first | (with_reducible first | exact HB.out | apply below_alloc | apply pw_below_drewN | apply below_drew1 | refine below_set ?_ GE135.out) | exact HB.out)⟩⟩
   ·replace c9 := Bool.eq_false_iff.mpr c9
    subst c9
    have H1 : (ip_Encode.j0 k a0_5 a0_0 a0_1 a0_2 a0_3 a0_4 a0_5 a0_6 false a0_8 a0_9) = some (r1, r2) := by rw [if_neg (show ¬ (false = true) by decide)] at H; exact H
    clear H
    have H := H1
    clear H1
    have H' := Aside0.mk H
    clear H
    go_wp2_with (first | ((with_reducible refine gate_load (t := 23) rfl ?_); refine gate_wanted ?hw (fun hw_ => ?_); (case hw => first | rfl | (go_simp; done)); refine load_big hw_ 23 _ rfl _ rfl 23 _ (0, 0) _ (by (with_reducible repeat (first | apply blk_drewN | apply blk_drew | apply blk_alloc | (apply blk_farA; case hp => assumption) | apply blk_put)); apply Aside0.out; assumption; all_goals (simp only [List.setIfInBounds_toArray, List.set_cons_zero, List.set_cons_succ]; try rfl)) Try.underlying23 rfl (by kernel_rfl) ?_; clear hw_; simp only [Act.put, List.setIfInBounds_toArray, List.set_cons_zero, List.set_cons_succ]) | ((with_reducible refine gate_store (t := 23) rfl ?_); refine store_big rfl 23 _ _ rfl _ _ rfl rfl 23 _ (by (with_reducible repeat (first | apply blk_drewN | apply blk_drew | apply blk_alloc | (apply blk_farA; case hp => assumption) | apply blk_put)); apply Aside0.out; assumption; all_goals (simp only [List.setIfInBounds_toArray, List.set_cons_zero, List.set_cons_succ]; try rfl)) (by kernel_rfl) (by rfl) (by rfl) _ (by simp only [World.setCells, Nat.reduceAdd]; rfl) ?_; simp only [Act.put, List.setIfInBounds_toArray, List.set_cons_zero, List.set_cons_succ]) | go_in)
    go_meet
    case rel => exact ⟨_, (a0_5), (by first | rfl | (simp; done) | (simp [*]; done)), H', ⟨by first | omega | exact Nat.le_refl _⟩, ⟨by (with_reducible repeat (first | refine blk_drewN ?_ _ | refine blk_drew ?_ | refine blk_alloc ?_ _)); exact BK135.out⟩, ⟨by repeat (first | (with_reducible first | exact HB.out | apply below_alloc | apply pw_below_drewN | apply below_drew1 | refine below_set ?_ GE135.out) | exact HB.out)⟩⟩
  case rest =>
   clear HC4
   try clear c1; try clear p2; try clear c3; try clear c3b0; try clear c3b1; try clear c8; try clear c9; try clear hcz6_0 hcz6_1 hcz6_2 hcz6_3 hcz6_4 hcz6_5 hcz6_6 hcz6_7 hcz6_8 hcz6_9; try clear hcz8_0 hcz8_1 hcz8_2 hcz8_3 hcz8_4 hcz8_5 hcz8_6 hcz8_7 hcz8_8 hcz8_9; try clear hfz6_0 hfz6_1 hfz6_2 hfz6_3 hfz6_4 hfz6_5 hfz6_6 hfz6_7 hfz6_8 hfz6_9; try clear hfz8_0 hfz8_1 hfz8_2 hfz8_3 hfz8_4 hfz8_5 hfz8_6 hfz8_7 hfz8_8 hfz8_9
   obtain ⟨kq, x5_3, rfl, HA, HJ3, BK135, HB⟩ := hcut
   cases kq with
   | zero => exact absurd HA.out (by simp [ip_Encode.j0])
   | succ kj3 =>
    have H := HA.out
    clear HA
    simp only [ip_Encode.j0] at H
    have HC10 := Aside0.mk H
    clear H
    obtain ⟨hcz11_0, hcz11_1, hcz11_2, hcz11_3, hcz11_4, hcz11_5, hcz11_6, hcz11_7, hcz11_8, hcz11_9⟩ := blk_cells10 BK135.out
    obtain ⟨hfz11_0, hfz11_1, hfz11_2, hfz11_3, hfz11_4, hfz11_5, hfz11_6, hfz11_7, hfz11_8, hfz11_9⟩ := blk_frozens10 BK135.out
    go_upto_if 20 with (fail)
    go_cut [5] (fun v5 wc => ∃ (kq : Nat) (x5_9 : Int), v5 = .int .i64 x5_9 ∧ Aside0 (ip_Encode.j1 kq x5_9 a0_0 a0_1 a0_2 a0_3 a0_4 a0_5 a0_6 a0_7 a0_8 a0_9 = some (r1, r2)) ∧ Aside0 (kq ≤ kj3) ∧ Aside0 (wc.heap[gb135]? = some (.cells #[.int .i64 a0_0, .int .i64 a0_1, .int .i64 a0_2, .int .i64 a0_3, .int .i64 a0_4, .int .i64 a0_5, .bool a0_6, .bool a0_7, .string a0_8, .string a0_9] 23 (0, 0))) ∧ Aside0 (Below w.heap.size w wc))
    case first =>
     have H := HC10.out
     clear HC10
     by_cases c12 : a0_6 = true
     ·subst c12
      have H1 : (ip_Encode.j1 kj3 (Go.bits .or .i64 x5_3 8192) a0_0 a0_1 a0_2 a0_3 a0_4 a0_5 true a0_7 a0_8 a0_9) = some (r1, r2) := by rw [if_pos rfl] at H; exact H
      clear H
      have H := H1
      clear H1
      have H' := Aside0.mk H
      clear H
      go_wp2_with (first | ((with_reducible refine gate_load (t := 23) rfl ?_); refine gate_wanted ?hw (fun hw_ => ?_); (case hw => first | rfl | (go_simp; done)); refine load_big hw_ 23 _ rfl _ rfl 23 _ (0, 0) _ (by (with_reducible repeat (first | apply blk_drewN | apply blk_drew | apply blk_alloc | (apply blk_farA; case hp => assumption) | apply blk_put)); apply Aside0.out; assumption; all_goals (simp only [List.setIfInBounds_toArray, List.set_cons_zero, List.set_cons_succ]; try rfl)) Try.underlying23 rfl (by kernel_rfl) ?_; clear hw_; simp only [Act.put, List.setIfInBounds_toArray, List.set_cons_zero, List.set_cons_succ]) | ((with_reducible refine gate_store (t := 23) rfl ?_); refine store_big rfl 23 _ _ rfl _ _ rfl rfl 23 _ (by (with_reducible repeat (first | apply blk_drewN | apply blk_drew | apply blk_alloc | (apply blk_farA; case hp => assumption) | apply blk_put)); apply Aside0.out; assumption; all_goals (simp only [List.setIfInBounds_toArray, List.set_cons_zero, List.set_cons_succ]; try rfl)) (by kernel_rfl) (by rfl) (by rfl) _ (by simp only [World.setCells, Nat.reduceAdd]; rfl) ?_; simp only [Act.put, List.setIfInBounds_toArray, List.set_cons_zero, List.set_cons_succ]) | go_in)
      go_meet
      case rel => exact ⟨_, (Go.bits .or .i64 x5_3 8192), (by first | rfl | (simp; done) | (simp [*]; done)), H', ⟨by have := HJ3.out; first | omega | exact Nat.le_refl _⟩, ⟨by (with_reducible repeat (first | refine blk_drewN ?_ _ | refine blk_drew ?_ | refine blk_alloc ?_ _)); exact BK135.out⟩, ⟨by repeat (first | (with_reducible first | exact HB.out | apply below_alloc | apply pw_below_drewN | apply below_drew1 | refine below_set ?_ GE135.out) | exact HB.out)⟩⟩
     ·replace c12 := Bool.eq_false_iff.mpr c12
      subst c12
      have H1 : (ip_Encode.j1 kj3 x5_3 a0_0 a0_1 a0_2 a0_3 a0_4 a0_5 false a0_7 a0_8 a0_9) = some (r1, r2) := by rw [if_neg (show ¬ (false = true) by decide)] at H; exact H
      clear H
      have H := H1
      clear H1
      have H' := Aside0.mk H
      clear H
      go_wp2_with (first | ((with_reducible refine gate_load (t := 23) rfl ?_); refine gate_wanted ?hw (fun hw_ => ?_); (case hw => first | rfl | (go_simp; done)); refine load_big hw_ 23 _ rfl _ rfl 23 _ (0, 0) _ (by (with_reducible repeat (first | apply blk_drewN | apply blk_drew | apply blk_alloc | (apply blk_farA; case hp => assumption) | apply blk_put)); apply Aside0.out; assumption; all_goals (simp only [List.setIfInBounds_toArray, List.set_cons_zero, List.set_cons_succ]; try rfl)) Try.underlying23 rfl (by kernel_rfl) ?_; clear hw_; simp only [Act.put, List.setIfInBounds_toArray, List.set_cons_zero, List.set_cons_succ]) | ((with_reducible refine gate_store (t := 23) rfl ?_); refine store_big rfl 23 _ _ rfl _ _ rfl rfl 23 _ (by (with_reducible repeat (first | apply blk_drewN | apply blk_drew | apply blk_alloc | (apply blk_farA; case hp => assumption) | apply blk_put)); apply Aside0.out; assumption; all_goals (simp only [List.setIfInBounds_toArray, List.set_cons_zero, List.set_cons_succ]; try rfl)) (by kernel_rfl) (by rfl) (by rfl) _ (by simp only [World.setCells, Nat.reduceAdd]; rfl) ?_; simp only [Act.put, List.setIfInBounds_toArray, List.set_cons_zero, List.set_cons_succ]) | go_in)
      go_meet
      case rel => exact ⟨_, (x5_3), (by first | rfl | (simp; done) | (simp [*]; done)), H', ⟨by have := HJ3.out; first | omega | exact Nat.le_refl _⟩, ⟨by (with_reducible repeat (first | refine blk_drewN ?_ _ | refine blk_drew ?_ | refine blk_alloc ?_ _)); exact BK135.out⟩, ⟨by repeat (first | (with_reducible first | exact HB.out | apply below_alloc | apply pw_below_drewN | apply below_drew1 | refine below_set ?_ GE135.out) | exact HB.out)⟩⟩
    case rest =>
     clear HC10
     try clear c1; try clear p2; try clear c3; try clear c3b0; try clear c3b1; try clear c8; try clear c9; try clear c12; try clear hcz11_0 hcz11_1 hcz11_2 hcz11_3 hcz11_4 hcz11_5 hcz11_6 hcz11_7 hcz11_8 hcz11_9; try clear hcz6_0 hcz6_1 hcz6_2 hcz6_3 hcz6_4 hcz6_5 hcz6_6 hcz6_7 hcz6_8 hcz6_9; try clear hcz8_0 hcz8_1 hcz8_2 hcz8_3 hcz8_4 hcz8_5 hcz8_6 hcz8_7 hcz8_8 hcz8_9; try clear hfz11_0 hfz11_1 hfz11_2 hfz11_3 hfz11_4 hfz11_5 hfz11_6 hfz11_7 hfz11_8 hfz11_9; try clear hfz6_0 hfz6_1 hfz6_2 hfz6_3 hfz6_4 hfz6_5 hfz6_6 hfz6_7 hfz6_8 hfz6_9; try clear hfz8_0 hfz8_1 hfz8_2 hfz8_3 hfz8_4 hfz8_5 hfz8_6 hfz8_7 hfz8_8 hfz8_9; try clear p2
     obtain ⟨kq, x5_9, rfl, HA, HJ9, BK135, HB⟩ := hcut
     cases kq with
     | zero => exact absurd HA.out (by simp [ip_Encode.j1])
     | succ kj9 =>
      have H := HA.out
      clear HA
      simp only [ip_Encode.j1] at H
      replace H := Option.bind_eq_some_iff.mp H
      obtain ⟨t137, A130, H⟩ := H
      replace H : ((ip_num.f kj9 (Go.bits .or .i64 64 (wrap64 (Int.tdiv t137 4))) 1).bind fun t138 => ((ip_num.f kj9 0 1).bind fun t139 => (if t138.size + t139.size ≤ 9223372036854775807 then ((ip_head.f a0_0 a0_1 a0_2 a0_3 a0_4 a0_5 a0_6 a0_7 a0_8 a0_9).bind fun t140 => ((ip_num.f kj9 (wrap64 (t140 + (a0_9.size : Int))) 2).bind fun t141 => (if (t138 ++ t139).size + t141.size ≤ 9223372036854775807 then ((ip_num.f kj9 a0_4 2).bind fun t142 => (if ((t138 ++ t139) ++ t141).size + t142.size ≤ 9223372036854775807 then ((ip_num.f kj9 x5_9 2).bind fun t143 => (if (((t138 ++ t139) ++ t141) ++ t142).size + t143.size ≤ 9223372036854775807 then ((ip_num.f kj9 a0_2 1).bind fun t144 => (if ((((t138 ++ t139) ++ t141) ++ t142) ++ t143).size + t144.size ≤ 9223372036854775807 then ((ip_num.f kj9 a0_3 1).bind fun t145 => (if (((((t138 ++ t139) ++ t141) ++ t142) ++ t143) ++ t144).size + t145.size ≤ 9223372036854775807 then ((ip_num.f kj9 0 2).bind fun t146 => (if ((((((t138 ++ t139) ++ t141) ++ t142) ++ t143) ++ t144) ++ t145).size + t146.size ≤ 9223372036854775807 then ((ip_num.f kj9 a0_0 4).bind fun t147 => (if (((((((t138 ++ t139) ++ t141) ++ t142) ++ t143) ++ t144) ++ t145) ++ t146).size + t147.size ≤ 9223372036854775807 then ((ip_num.f kj9 a0_1 4).bind fun t148 => (if ((((((((t138 ++ t139) ++ t141) ++ t142) ++ t143) ++ t144) ++ t145) ++ t146) ++ t147).size + t148.size ≤ 9223372036854775807 then (if (((((((((t138 ++ t139) ++ t141) ++ t142) ++ t143) ++ t144) ++ t145) ++ t146) ++ t147) ++ t148).size + a0_8.size ≤ 9223372036854775807 then ((sum_Seal.f kj9 ((((((((((t138 ++ t139) ++ t141) ++ t142) ++ t143) ++ t144) ++ t145) ++ t146) ++ t147) ++ t148) ++ a0_8) 10).bind fun bt149 => (if bt149.1.size + a0_9.size ≤ 9223372036854775807 then (some (bt149.1 ++ a0_9, bt149.2)) else (none))) else (none)) else (none))) else (none))) else (none))) else (none))) else (none))) else (none))) else (none))) else (none)))) else (none)))) = some (r1, r2) := H
      have A13 := Aside0.mk A130
      clear A130
      replace H := Option.bind_eq_some_iff.mp H
      obtain ⟨t138, A140, H⟩ := H
      replace H : ((ip_num.f kj9 0 1).bind fun t139 => (if t138.size + t139.size ≤ 9223372036854775807 then ((ip_head.f a0_0 a0_1 a0_2 a0_3 a0_4 a0_5 a0_6 a0_7 a0_8 a0_9).bind fun t140 => ((ip_num.f kj9 (wrap64 (t140 + (a0_9.size : Int))) 2).bind fun t141 => (if (t138 ++ t139).size + t141.size ≤ 9223372036854775807 then ((ip_num.f kj9 a0_4 2).bind fun t142 => (if ((t138 ++ t139) ++ t141).size + t142.size ≤ 9223372036854775807 then ((ip_num.f kj9 x5_9 2).bind fun t143 => (if (((t138 ++ t139) ++ t141) ++ t142).size + t143.size ≤ 9223372036854775807 then ((ip_num.f kj9 a0_2 1).bind fun t144 => (if ((((t138 ++ t139) ++ t141) ++ t142) ++ t143).size + t144.size ≤ 9223372036854775807 then ((ip_num.f kj9 a0_3 1).bind fun t145 => (if (((((t138 ++ t139) ++ t141) ++ t142) ++ t143) ++ t144).size + t145.size ≤ 9223372036854775807 then ((ip_num.f kj9 0 2).bind fun t146 => (if ((((((t138 ++ t139) ++ t141) ++ t142) ++ t143) ++ t144) ++ t145).size + t146.size ≤ 9223372036854775807 then ((ip_num.f kj9 a0_0 4).bind fun t147 => (if (((((((t138 ++ t139) ++ t141) ++ t142) ++ t143) ++ t144) ++ t145) ++ t146).size + t147.size ≤ 9223372036854775807 then ((ip_num.f kj9 a0_1 4).bind fun t148 => (if ((((((((t138 ++ t139) ++ t141) ++ t142) ++ t143) ++ t144) ++ t145) ++ t146) ++ t147).size + t148.size ≤ 9223372036854775807 then (if (((((((((t138 ++ t139) ++ t141) ++ t142) ++ t143) ++ t144) ++ t145) ++ t146) ++ t147) ++ t148).size + a0_8.size ≤ 9223372036854775807 then ((sum_Seal.f kj9 ((((((((((t138 ++ t139) ++ t141) ++ t142) ++ t143) ++ t144) ++ t145) ++ t146) ++ t147) ++ t148) ++ a0_8) 10).bind fun bt149 => (if bt149.1.size + a0_9.size ≤ 9223372036854775807 then (some (bt149.1 ++ a0_9, bt149.2)) else (none))) else (none)) else (none))) else (none))) else (none))) else (none))) else (none))) else (none))) else (none))) else (none)))) else (none))) = some (r1, r2) := H
      have A14 := Aside0.mk A140
      clear A140
      replace H := Option.bind_eq_some_iff.mp H
      obtain ⟨t139, A150, H⟩ := H
      replace H : (if t138.size + t139.size ≤ 9223372036854775807 then ((ip_head.f a0_0 a0_1 a0_2 a0_3 a0_4 a0_5 a0_6 a0_7 a0_8 a0_9).bind fun t140 => ((ip_num.f kj9 (wrap64 (t140 + (a0_9.size : Int))) 2).bind fun t141 => (if (t138 ++ t139).size + t141.size ≤ 9223372036854775807 then ((ip_num.f kj9 a0_4 2).bind fun t142 => (if ((t138 ++ t139) ++ t141).size + t142.size ≤ 9223372036854775807 then ((ip_num.f kj9 x5_9 2).bind fun t143 => (if (((t138 ++ t139) ++ t141) ++ t142).size + t143.size ≤ 9223372036854775807 then ((ip_num.f kj9 a0_2 1).bind fun t144 => (if ((((t138 ++ t139) ++ t141) ++ t142) ++ t143).size + t144.size ≤ 9223372036854775807 then ((ip_num.f kj9 a0_3 1).bind fun t145 => (if (((((t138 ++ t139) ++ t141) ++ t142) ++ t143) ++ t144).size + t145.size ≤ 9223372036854775807 then ((ip_num.f kj9 0 2).bind fun t146 => (if ((((((t138 ++ t139) ++ t141) ++ t142) ++ t143) ++ t144) ++ t145).size + t146.size ≤ 9223372036854775807 then ((ip_num.f kj9 a0_0 4).bind fun t147 => (if (((((((t138 ++ t139) ++ t141) ++ t142) ++ t143) ++ t144) ++ t145) ++ t146).size + t147.size ≤ 9223372036854775807 then ((ip_num.f kj9 a0_1 4).bind fun t148 => (if ((((((((t138 ++ t139) ++ t141) ++ t142) ++ t143) ++ t144) ++ t145) ++ t146) ++ t147).size + t148.size ≤ 9223372036854775807 then (if (((((((((t138 ++ t139) ++ t141) ++ t142) ++ t143) ++ t144) ++ t145) ++ t146) ++ t147) ++ t148).size + a0_8.size ≤ 9223372036854775807 then ((sum_Seal.f kj9 ((((((((((t138 ++ t139) ++ t141) ++ t142) ++ t143) ++ t144) ++ t145) ++ t146) ++ t147) ++ t148) ++ a0_8) 10).bind fun bt149 => (if bt149.1.size + a0_9.size ≤ 9223372036854775807 then (some (bt149.1 ++ a0_9, bt149.2)) else (none))) else (none)) else (none))) else (none))) else (none))) else (none))) else (none))) else (none))) else (none))) else (none)))) else (none)) = some (r1, r2) := H
      have A15 := Aside0.mk A150
      clear A150
      by_cases c16 : t138.size + t139.size ≤ 9223372036854775807
      ·rw [if_pos c16] at H
       have c16b0 := eq_true c16
       have c16b1 : decide (t138.size + t139.size ≤ 9223372036854775807) = true := decide_eq_true c16
       try have c16b2 : (9223372036854775807 < t138.size + t139.size) = False := eq_false (Nat.not_lt.2 c16)
       replace H := Option.bind_eq_some_iff.mp H
       obtain ⟨t140, A170, H⟩ := H
       replace H : ((ip_num.f kj9 (wrap64 (t140 + (a0_9.size : Int))) 2).bind fun t141 => (if (t138 ++ t139).size + t141.size ≤ 9223372036854775807 then ((ip_num.f kj9 a0_4 2).bind fun t142 => (if ((t138 ++ t139) ++ t141).size + t142.size ≤ 9223372036854775807 then ((ip_num.f kj9 x5_9 2).bind fun t143 => (if (((t138 ++ t139) ++ t141) ++ t142).size + t143.size ≤ 9223372036854775807 then ((ip_num.f kj9 a0_2 1).bind fun t144 => (if ((((t138 ++ t139) ++ t141) ++ t142) ++ t143).size + t144.size ≤ 9223372036854775807 then ((ip_num.f kj9 a0_3 1).bind fun t145 => (if (((((t138 ++ t139) ++ t141) ++ t142) ++ t143) ++ t144).size + t145.size ≤ 9223372036854775807 then ((ip_num.f kj9 0 2).bind fun t146 => (if ((((((t138 ++ t139) ++ t141) ++ t142) ++ t143) ++ t144) ++ t145).size + t146.size ≤ 9223372036854775807 then ((ip_num.f kj9 a0_0 4).bind fun t147 => (if (((((((t138 ++ t139) ++ t141) ++ t142) ++ t143) ++ t144) ++ t145) ++ t146).size + t147.size ≤ 9223372036854775807 then ((ip_num.f kj9 a0_1 4).bind fun t148 => (if ((((((((t138 ++ t139) ++ t141) ++ t142) ++ t143) ++ t144) ++ t145) ++ t146) ++ t147).size + t148.size ≤ 9223372036854775807 then (if (((((((((t138 ++ t139) ++ t141) ++ t142) ++ t143) ++ t144) ++ t145) ++ t146) ++ t147) ++ t148).size + a0_8.size ≤ 9223372036854775807 then ((sum_Seal.f kj9 ((((((((((t138 ++ t139) ++ t141) ++ t142) ++ t143) ++ t144) ++ t145) ++ t146) ++ t147) ++ t148) ++ a0_8) 10).bind fun bt149 => (if bt149.1.size + a0_9.size ≤ 9223372036854775807 then (some (bt149.1 ++ a0_9, bt149.2)) else (none))) else (none)) else (none))) else (none))) else (none))) else (none))) else (none))) else (none))) else (none))) else (none))) = some (r1, r2) := H
       have A17 := Aside0.mk A170
       clear A170
       replace H := Option.bind_eq_some_iff.mp H
       obtain ⟨t141, A180, H⟩ := H
       replace H : (if (t138 ++ t139).size + t141.size ≤ 9223372036854775807 then ((ip_num.f kj9 a0_4 2).bind fun t142 => (if ((t138 ++ t139) ++ t141).size + t142.size ≤ 9223372036854775807 then ((ip_num.f kj9 x5_9 2).bind fun t143 => (if (((t138 ++ t139) ++ t141) ++ t142).size + t143.size ≤ 9223372036854775807 then ((ip_num.f kj9 a0_2 1).bind fun t144 => (if ((((t138 ++ t139) ++ t141) ++ t142) ++ t143).size + t144.size ≤ 9223372036854775807 then ((ip_num.f kj9 a0_3 1).bind fun t145 => (if (((((t138 ++ t139) ++ t141) ++ t142) ++ t143) ++ t144).size + t145.size ≤ 9223372036854775807 then ((ip_num.f kj9 0 2).bind fun t146 => (if ((((((t138 ++ t139) ++ t141) ++ t142) ++ t143) ++ t144) ++ t145).size + t146.size ≤ 9223372036854775807 then ((ip_num.f kj9 a0_0 4).bind fun t147 => (if (((((((t138 ++ t139) ++ t141) ++ t142) ++ t143) ++ t144) ++ t145) ++ t146).size + t147.size ≤ 9223372036854775807 then ((ip_num.f kj9 a0_1 4).bind fun t148 => (if ((((((((t138 ++ t139) ++ t141) ++ t142) ++ t143) ++ t144) ++ t145) ++ t146) ++ t147).size + t148.size ≤ 9223372036854775807 then (if (((((((((t138 ++ t139) ++ t141) ++ t142) ++ t143) ++ t144) ++ t145) ++ t146) ++ t147) ++ t148).size + a0_8.size ≤ 9223372036854775807 then ((sum_Seal.f kj9 ((((((((((t138 ++ t139) ++ t141) ++ t142) ++ t143) ++ t144) ++ t145) ++ t146) ++ t147) ++ t148) ++ a0_8) 10).bind fun bt149 => (if bt149.1.size + a0_9.size ≤ 9223372036854775807 then (some (bt149.1 ++ a0_9, bt149.2)) else (none))) else (none)) else (none))) else (none))) else (none))) else (none))) else (none))) else (none))) else (none))) else (none)) = some (r1, r2) := H
       have A18 := Aside0.mk A180
       clear A180
       by_cases c19 : (t138 ++ t139).size + t141.size ≤ 9223372036854775807
       ·rw [if_pos c19] at H
        have c19b0 := eq_true c19
        have c19b1 : decide ((t138 ++ t139).size + t141.size ≤ 9223372036854775807) = true := decide_eq_true c19
        try have c19b2 : (9223372036854775807 < (t138 ++ t139).size + t141.size) = False := eq_false (Nat.not_lt.2 c19)
        (try (have c19b3 := c19b2; simp only [ByteArray.size_append] at c19b3))
        replace H := Option.bind_eq_some_iff.mp H
        obtain ⟨t142, A200, H⟩ := H
        replace H : (if ((t138 ++ t139) ++ t141).size + t142.size ≤ 9223372036854775807 then ((ip_num.f kj9 x5_9 2).bind fun t143 => (if (((t138 ++ t139) ++ t141) ++ t142).size + t143.size ≤ 9223372036854775807 then ((ip_num.f kj9 a0_2 1).bind fun t144 => (if ((((t138 ++ t139) ++ t141) ++ t142) ++ t143).size + t144.size ≤ 9223372036854775807 then ((ip_num.f kj9 a0_3 1).bind fun t145 => (if (((((t138 ++ t139) ++ t141) ++ t142) ++ t143) ++ t144).size + t145.size ≤ 9223372036854775807 then ((ip_num.f kj9 0 2).bind fun t146 => (if ((((((t138 ++ t139) ++ t141) ++ t142) ++ t143) ++ t144) ++ t145).size + t146.size ≤ 9223372036854775807 then ((ip_num.f kj9 a0_0 4).bind fun t147 => (if (((((((t138 ++ t139) ++ t141) ++ t142) ++ t143) ++ t144) ++ t145) ++ t146).size + t147.size ≤ 9223372036854775807 then ((ip_num.f kj9 a0_1 4).bind fun t148 => (if ((((((((t138 ++ t139) ++ t141) ++ t142) ++ t143) ++ t144) ++ t145) ++ t146) ++ t147).size + t148.size ≤ 9223372036854775807 then (if (((((((((t138 ++ t139) ++ t141) ++ t142) ++ t143) ++ t144) ++ t145) ++ t146) ++ t147) ++ t148).size + a0_8.size ≤ 9223372036854775807 then ((sum_Seal.f kj9 ((((((((((t138 ++ t139) ++ t141) ++ t142) ++ t143) ++ t144) ++ t145) ++ t146) ++ t147) ++ t148) ++ a0_8) 10).bind fun bt149 => (if bt149.1.size + a0_9.size ≤ 9223372036854775807 then (some (bt149.1 ++ a0_9, bt149.2)) else (none))) else (none)) else (none))) else (none))) else (none))) else (none))) else (none))) else (none))) else (none)) = some (r1, r2) := H
        have A20 := Aside0.mk A200
        clear A200
        by_cases c21 : ((t138 ++ t139) ++ t141).size + t142.size ≤ 9223372036854775807
        ·rw [if_pos c21] at H
         have c21b0 := eq_true c21
         have c21b1 : decide (((t138 ++ t139) ++ t141).size + t142.size ≤ 9223372036854775807) = true := decide_eq_true c21
         try have c21b2 : (9223372036854775807 < ((t138 ++ t139) ++ t141).size + t142.size) = False := eq_false (Nat.not_lt.2 c21)
         (try (have c21b3 := c21b2; simp only [ByteArray.size_append] at c21b3))
         replace H := Option.bind_eq_some_iff.mp H
         obtain ⟨t143, A220, H⟩ := H
         replace H : (if (((t138 ++ t139) ++ t141) ++ t142).size + t143.size ≤ 9223372036854775807 then ((ip_num.f kj9 a0_2 1).bind fun t144 => (if ((((t138 ++ t139) ++ t141) ++ t142) ++ t143).size + t144.size ≤ 9223372036854775807 then ((ip_num.f kj9 a0_3 1).bind fun t145 => (if (((((t138 ++ t139) ++ t141) ++ t142) ++ t143) ++ t144).size + t145.size ≤ 9223372036854775807 then ((ip_num.f kj9 0 2).bind fun t146 => (if ((((((t138 ++ t139) ++ t141) ++ t142) ++ t143) ++ t144) ++ t145).size + t146.size ≤ 9223372036854775807 then ((ip_num.f kj9 a0_0 4).bind fun t147 => (if (((((((t138 ++ t139) ++ t141) ++ t142) ++ t143) ++ t144) ++ t145) ++ t146).size + t147.size ≤ 9223372036854775807 then ((ip_num.f kj9 a0_1 4).bind fun t148 => (if ((((((((t138 ++ t139) ++ t141) ++ t142) ++ t143) ++ t144) ++ t145) ++ t146) ++ t147).size + t148.size ≤ 9223372036854775807 then (if (((((((((t138 ++ t139) ++ t141) ++ t142) ++ t143) ++ t144) ++ t145) ++ t146) ++ t147) ++ t148).size + a0_8.size ≤ 9223372036854775807 then ((sum_Seal.f kj9 ((((((((((t138 ++ t139) ++ t141) ++ t142) ++ t143) ++ t144) ++ t145) ++ t146) ++ t147) ++ t148) ++ a0_8) 10).bind fun bt149 => (if bt149.1.size + a0_9.size ≤ 9223372036854775807 then (some (bt149.1 ++ a0_9, bt149.2)) else (none))) else (none)) else (none))) else (none))) else (none))) else (none))) else (none))) else (none)) = some (r1, r2) := H
         have A22 := Aside0.mk A220
         clear A220
         by_cases c23 : (((t138 ++ t139) ++ t141) ++ t142).size + t143.size ≤ 9223372036854775807
         ·rw [if_pos c23] at H
          have c23b0 := eq_true c23
          have c23b1 : decide ((((t138 ++ t139) ++ t141) ++ t142).size + t143.size ≤ 9223372036854775807) = true := decide_eq_true c23
          try have c23b2 : (9223372036854775807 < (((t138 ++ t139) ++ t141) ++ t142).size + t143.size) = False := eq_false (Nat.not_lt.2 c23)
          (try (have c23b3 := c23b2; simp only [ByteArray.size_append] at c23b3))
          replace H := Option.bind_eq_some_iff.mp H
          obtain ⟨t144, A240, H⟩ := H
          replace H : (if ((((t138 ++ t139) ++ t141) ++ t142) ++ t143).size + t144.size ≤ 9223372036854775807 then ((ip_num.f kj9 a0_3 1).bind fun t145 => (if (((((t138 ++ t139) ++ t141) ++ t142) ++ t143) ++ t144).size + t145.size ≤ 9223372036854775807 then ((ip_num.f kj9 0 2).bind fun t146 => (if ((((((t138 ++ t139) ++ t141) ++ t142) ++ t143) ++ t144) ++ t145).size + t146.size ≤ 9223372036854775807 then ((ip_num.f kj9 a0_0 4).bind fun t147 => (if (((((((t138 ++ t139) ++ t141) ++ t142) ++ t143) ++ t144) ++ t145) ++ t146).size + t147.size ≤ 9223372036854775807 then ((ip_num.f kj9 a0_1 4).bind fun t148 => (if ((((((((t138 ++ t139) ++ t141) ++ t142) ++ t143) ++ t144) ++ t145) ++ t146) ++ t147).size + t148.size ≤ 9223372036854775807 then (if (((((((((t138 ++ t139) ++ t141) ++ t142) ++ t143) ++ t144) ++ t145) ++ t146) ++ t147) ++ t148).size + a0_8.size ≤ 9223372036854775807 then ((sum_Seal.f kj9 ((((((((((t138 ++ t139) ++ t141) ++ t142) ++ t143) ++ t144) ++ t145) ++ t146) ++ t147) ++ t148) ++ a0_8) 10).bind fun bt149 => (if bt149.1.size + a0_9.size ≤ 9223372036854775807 then (some (bt149.1 ++ a0_9, bt149.2)) else (none))) else (none)) else (none))) else (none))) else (none))) else (none))) else (none)) = some (r1, r2) := H
          have A24 := Aside0.mk A240
          clear A240
          by_cases c25 : ((((t138 ++ t139) ++ t141) ++ t142) ++ t143).size + t144.size ≤ 9223372036854775807
          ·rw [if_pos c25] at H
           have c25b0 := eq_true c25
           have c25b1 : decide (((((t138 ++ t139) ++ t141) ++ t142) ++ t143).size + t144.size ≤ 9223372036854775807) = true := decide_eq_true c25
           try have c25b2 : (9223372036854775807 < ((((t138 ++ t139) ++ t141) ++ t142) ++ t143).size + t144.size) = False := eq_false (Nat.not_lt.2 c25)
           (try (have c25b3 := c25b2; simp only [ByteArray.size_append] at c25b3))
           replace H := Option.bind_eq_some_iff.mp H
           obtain ⟨t145, A260, H⟩ := H
           replace H : (if (((((t138 ++ t139) ++ t141) ++ t142) ++ t143) ++ t144).size + t145.size ≤ 9223372036854775807 then ((ip_num.f kj9 0 2).bind fun t146 => (if ((((((t138 ++ t139) ++ t141) ++ t142) ++ t143) ++ t144) ++ t145).size + t146.size ≤ 9223372036854775807 then ((ip_num.f kj9 a0_0 4).bind fun t147 => (if (((((((t138 ++ t139) ++ t141) ++ t142) ++ t143) ++ t144) ++ t145) ++ t146).size + t147.size ≤ 9223372036854775807 then ((ip_num.f kj9 a0_1 4).bind fun t148 => (if ((((((((t138 ++ t139) ++ t141) ++ t142) ++ t143) ++ t144) ++ t145) ++ t146) ++ t147).size + t148.size ≤ 9223372036854775807 then (if (((((((((t138 ++ t139) ++ t141) ++ t142) ++ t143) ++ t144) ++ t145) ++ t146) ++ t147) ++ t148).size + a0_8.size ≤ 9223372036854775807 then ((sum_Seal.f kj9 ((((((((((t138 ++ t139) ++ t141) ++ t142) ++ t143) ++ t144) ++ t145) ++ t146) ++ t147) ++ t148) ++ a0_8) 10).bind fun bt149 => (if bt149.1.size + a0_9.size ≤ 9223372036854775807 then (some (bt149.1 ++ a0_9, bt149.2)) else (none))) else (none)) else (none))) else (none))) else (none))) else (none)) = some (r1, r2) := H
           have A26 := Aside0.mk A260
           clear A260
           by_cases c27 : (((((t138 ++ t139) ++ t141) ++ t142) ++ t143) ++ t144).size + t145.size ≤ 9223372036854775807
           ·rw [if_pos c27] at H
            have c27b0 := eq_true c27
            have c27b1 : decide ((((((t138 ++ t139) ++ t141) ++ t142) ++ t143) ++ t144).size + t145.size ≤ 9223372036854775807) = true := decide_eq_true c27
            try have c27b2 : (9223372036854775807 < (((((t138 ++ t139) ++ t141) ++ t142) ++ t143) ++ t144).size + t145.size) = False := eq_false (Nat.not_lt.2 c27)
            (try (have c27b3 := c27b2; simp only [ByteArray.size_append] at c27b3))
            replace H := Option.bind_eq_some_iff.mp H
            obtain ⟨t146, A280, H⟩ := H
            replace H : (if ((((((t138 ++ t139) ++ t141) ++ t142) ++ t143) ++ t144) ++ t145).size + t146.size ≤ 9223372036854775807 then ((ip_num.f kj9 a0_0 4).bind fun t147 => (if (((((((t138 ++ t139) ++ t141) ++ t142) ++ t143) ++ t144) ++ t145) ++ t146).size + t147.size ≤ 9223372036854775807 then ((ip_num.f kj9 a0_1 4).bind fun t148 => (if ((((((((t138 ++ t139) ++ t141) ++ t142) ++ t143) ++ t144) ++ t145) ++ t146) ++ t147).size + t148.size ≤ 9223372036854775807 then (if (((((((((t138 ++ t139) ++ t141) ++ t142) ++ t143) ++ t144) ++ t145) ++ t146) ++ t147) ++ t148).size + a0_8.size ≤ 9223372036854775807 then ((sum_Seal.f kj9 ((((((((((t138 ++ t139) ++ t141) ++ t142) ++ t143) ++ t144) ++ t145) ++ t146) ++ t147) ++ t148) ++ a0_8) 10).bind fun bt149 => (if bt149.1.size + a0_9.size ≤ 9223372036854775807 then (some (bt149.1 ++ a0_9, bt149.2)) else (none))) else (none)) else (none))) else (none))) else (none)) = some (r1, r2) := H
            have A28 := Aside0.mk A280
            clear A280
            by_cases c29 : ((((((t138 ++ t139) ++ t141) ++ t142) ++ t143) ++ t144) ++ t145).size + t146.size ≤ 9223372036854775807
            ·rw [if_pos c29] at H
             have c29b0 := eq_true c29
             have c29b1 : decide (((((((t138 ++ t139) ++ t141) ++ t142) ++ t143) ++ t144) ++ t145).size + t146.size ≤ 9223372036854775807) = true := decide_eq_true c29
             try have c29b2 : (9223372036854775807 < ((((((t138 ++ t139) ++ t141) ++ t142) ++ t143) ++ t144) ++ t145).size + t146.size) = False := eq_false (Nat.not_lt.2 c29)
             (try (have c29b3 := c29b2; simp only [ByteArray.size_append] at c29b3))
             replace H := Option.bind_eq_some_iff.mp H
             obtain ⟨t147, A300, H⟩ := H
             replace H : (if (((((((t138 ++ t139) ++ t141) ++ t142) ++ t143) ++ t144) ++ t145) ++ t146).size + t147.size ≤ 9223372036854775807 then ((ip_num.f kj9 a0_1 4).bind fun t148 => (if ((((((((t138 ++ t139) ++ t141) ++ t142) ++ t143) ++ t144) ++ t145) ++ t146) ++ t147).size + t148.size ≤ 9223372036854775807 then (if (((((((((t138 ++ t139) ++ t141) ++ t142) ++ t143) ++ t144) ++ t145) ++ t146) ++ t147) ++ t148).size + a0_8.size ≤ 9223372036854775807 then ((sum_Seal.f kj9 ((((((((((t138 ++ t139) ++ t141) ++ t142) ++ t143) ++ t144) ++ t145) ++ t146) ++ t147) ++ t148) ++ a0_8) 10).bind fun bt149 => (if bt149.1.size + a0_9.size ≤ 9223372036854775807 then (some (bt149.1 ++ a0_9, bt149.2)) else (none))) else (none)) else (none))) else (none)) = some (r1, r2) := H
             have A30 := Aside0.mk A300
             clear A300
             by_cases c31 : (((((((t138 ++ t139) ++ t141) ++ t142) ++ t143) ++ t144) ++ t145) ++ t146).size + t147.size ≤ 9223372036854775807
             ·rw [if_pos c31] at H
              have c31b0 := eq_true c31
              have c31b1 : decide ((((((((t138 ++ t139) ++ t141) ++ t142) ++ t143) ++ t144) ++ t145) ++ t146).size + t147.size ≤ 9223372036854775807) = true := decide_eq_true c31
              try have c31b2 : (9223372036854775807 < (((((((t138 ++ t139) ++ t141) ++ t142) ++ t143) ++ t144) ++ t145) ++ t146).size + t147.size) = False := eq_false (Nat.not_lt.2 c31)
              (try (have c31b3 := c31b2; simp only [ByteArray.size_append] at c31b3))
              replace H := Option.bind_eq_some_iff.mp H
              obtain ⟨t148, A320, H⟩ := H
              replace H : (if ((((((((t138 ++ t139) ++ t141) ++ t142) ++ t143) ++ t144) ++ t145) ++ t146) ++ t147).size + t148.size ≤ 9223372036854775807 then (if (((((((((t138 ++ t139) ++ t141) ++ t142) ++ t143) ++ t144) ++ t145) ++ t146) ++ t147) ++ t148).size + a0_8.size ≤ 9223372036854775807 then ((sum_Seal.f kj9 ((((((((((t138 ++ t139) ++ t141) ++ t142) ++ t143) ++ t144) ++ t145) ++ t146) ++ t147) ++ t148) ++ a0_8) 10).bind fun bt149 => (if bt149.1.size + a0_9.size ≤ 9223372036854775807 then (some (bt149.1 ++ a0_9, bt149.2)) else (none))) else (none)) else (none)) = some (r1, r2) := H
              have A32 := Aside0.mk A320
              clear A320
              by_cases c33 : ((((((((t138 ++ t139) ++ t141) ++ t142) ++ t143) ++ t144) ++ t145) ++ t146) ++ t147).size + t148.size ≤ 9223372036854775807
              ·rw [if_pos c33] at H
               have c33b0 := eq_true c33
               have c33b1 : decide (((((((((t138 ++ t139) ++ t141) ++ t142) ++ t143) ++ t144) ++ t145) ++ t146) ++ t147).size + t148.size ≤ 9223372036854775807) = true := decide_eq_true c33
               try have c33b2 : (9223372036854775807 < ((((((((t138 ++ t139) ++ t141) ++ t142) ++ t143) ++ t144) ++ t145) ++ t146) ++ t147).size + t148.size) = False := eq_false (Nat.not_lt.2 c33)
               (try (have c33b3 := c33b2; simp only [ByteArray.size_append] at c33b3))
               by_cases c34 : (((((((((t138 ++ t139) ++ t141) ++ t142) ++ t143) ++ t144) ++ t145) ++ t146) ++ t147) ++ t148).size + a0_8.size ≤ 9223372036854775807
               ·rw [if_pos c34] at H
                have c34b0 := eq_true c34
                have c34b1 : decide ((((((((((t138 ++ t139) ++ t141) ++ t142) ++ t143) ++ t144) ++ t145) ++ t146) ++ t147) ++ t148).size + a0_8.size ≤ 9223372036854775807) = true := decide_eq_true c34
                try have c34b2 : (9223372036854775807 < (((((((((t138 ++ t139) ++ t141) ++ t142) ++ t143) ++ t144) ++ t145) ++ t146) ++ t147) ++ t148).size + a0_8.size) = False := eq_false (Nat.not_lt.2 c34)
                (try (have c34b3 := c34b2; simp only [ByteArray.size_append] at c34b3))
                replace H := Option.bind_eq_some_iff.mp H
                obtain ⟨⟨t149, t150⟩, A350, H⟩ := H
                replace H : (if t149.size + a0_9.size ≤ 9223372036854775807 then (some (t149 ++ a0_9, t150)) else (none)) = some (r1, r2) := H
                have A35 := Aside0.mk A350
                clear A350
                by_cases c36 : t149.size + a0_9.size ≤ 9223372036854775807
                ·rw [if_pos c36] at H
                 have c36b0 := eq_true c36
                 have c36b1 : decide (t149.size + a0_9.size ≤ 9223372036854775807) = true := decide_eq_true c36
                 try have c36b2 : (9223372036854775807 < t149.size + a0_9.size) = False := eq_false (Nat.not_lt.2 c36)
                 simp only [Option.some.injEq, Prod.mk.injEq] at H
                 obtain ⟨rfl, rfl⟩ := H
                 try go_wp2_with (first | ((with_reducible refine gate_load (t := 23) rfl ?_); refine gate_wanted ?hw (fun hw_ => ?_); (case hw => first | rfl | (go_simp; done)); refine load_big hw_ 23 _ rfl _ rfl 23 _ (0, 0) _ (by (with_reducible repeat (first | apply blk_drewN | apply blk_drew | apply blk_alloc | (apply blk_farA; case hp => assumption) | apply blk_put)); apply Aside0.out; assumption; all_goals (simp only [List.setIfInBounds_toArray, List.set_cons_zero, List.set_cons_succ]; try rfl)) Try.underlying23 rfl (by kernel_rfl) ?_; clear hw_; simp only [Act.put, List.setIfInBounds_toArray, List.set_cons_zero, List.set_cons_succ]) | ((with_reducible refine gate_store (t := 23) rfl ?_); refine store_big rfl 23 _ _ rfl _ _ rfl rfl 23 _ (by (with_reducible repeat (first | apply blk_drewN | apply blk_drew | apply blk_alloc | (apply blk_farA; case hp => assumption) | apply blk_put)); apply Aside0.out; assumption; all_goals (simp only [List.setIfInBounds_toArray, List.set_cons_zero, List.set_cons_succ]; try rfl)) (by kernel_rfl) (by rfl) (by rfl) _ (by simp only [World.setCells, Nat.reduceAdd]; rfl) ?_; simp only [Act.put, List.setIfInBounds_toArray, List.set_cons_zero, List.set_cons_succ]) | go_in)
                 have n0_ := Aside0.mk (blk_drew BK135.out)
                 have n1_ := Aside0.mk (below_drew1 HB.out)
                 clear BK135
                 clear HB
                 have BK135 := n0_
                 have HB := n1_
                 clear n0_ n1_
                 refine start_ (n := 44) (S := fun w' => w'.cell? ⟨gb135, 0, none⟩ = some (.int .i64 a0_0) ∧ w'.cell? ⟨gb135, 1, none⟩ = some (.int .i64 a0_1) ∧ w'.cell? ⟨gb135, 2, none⟩ = some (.int .i64 a0_2) ∧ w'.cell? ⟨gb135, 3, none⟩ = some (.int .i64 a0_3) ∧ w'.cell? ⟨gb135, 4, none⟩ = some (.int .i64 a0_4) ∧ w'.cell? ⟨gb135, 5, none⟩ = some (.int .i64 a0_5) ∧ w'.cell? ⟨gb135, 6, none⟩ = some (.bool a0_6) ∧ w'.cell? ⟨gb135, 7, none⟩ = some (.bool a0_7) ∧ w'.cell? ⟨gb135, 8, none⟩ = some (.string a0_8) ∧ w'.cell? ⟨gb135, 9, none⟩ = some (.string a0_9)) (ds := []) #[false, false, false, false, false, false, false, false, false, false, false, false, false, false, false, false, false, false, false, false, false, false, false, false, false, false, false, false, false, false, false, false, false, false, false, false, false, false, false, false, false, false, false, false] (by kernel_rfl) rfl rfl ⟨(blk_cell BK135.out 0).trans rfl, (blk_cell BK135.out 1).trans rfl, (blk_cell BK135.out 2).trans rfl, (blk_cell BK135.out 3).trans rfl, (blk_cell BK135.out 4).trans rfl, (blk_cell BK135.out 5).trans rfl, (blk_cell BK135.out 6).trans rfl, (blk_cell BK135.out 7).trans rfl, (blk_cell BK135.out 8).trans rfl, (blk_cell BK135.out 9).trans rfl⟩ (fun hHeld => ?_); refine with_tabW ip_Encode.tab9 ip_Encode.bits9 (fun HT_ HW_ => ?_)
                 generalize wc.drew = w37 at BK135 HB hHeld ⊢
                 refine pure_ (i := 9) (N := some 32) (v := ?_) (a' := ?_) #[false, false, false, false, false, false, false, false, false, true, false, false, false, false, false, false, false, false, false, false, false, false, false, false, false, false, false, false, false, false, false, false, false, false, false, false, false, false, false, false, false, false, false, false] rfl rfl (any_of HT_.out (by kernel_rfl)) (fun _ _ _ h => h) (Or.inl ⟨by rfl, ?_⟩) ?_ ?_
                 rotate_left
                 ·intro w'
                  go_simp
                  with_reducible rfl
                 rotate_left
                 ·simp only [Act.put, List.setIfInBounds_toArray, List.set_cons_zero, List.set_cons_succ, i64_w, i32_w]
                  rfl
                 refine pure_ (i := 15) (N := some 38) (v := ?_) (a' := ?_) #[false, false, false, false, false, false, false, false, false, true, false, false, false, false, false, true, false, false, false, false, false, false, false, false, false, false, false, false, false, false, false, false, false, false, false, false, false, false, false, false, false, false, false, false] rfl rfl (any_of HT_.out (by kernel_rfl)) (fun _ _ _ h => h) (Or.inl ⟨by rfl, ?_⟩) ?_ ?_
                 rotate_left
                 ·intro w'
                  go_simp
                  with_reducible rfl
                 rotate_left
                 ·simp only [Act.put, List.setIfInBounds_toArray, List.set_cons_zero, List.set_cons_succ, i64_w, i32_w]
                  rfl
                 refine pure_ (i := 19) (N := some 42) (v := ?_) (a' := ?_) #[false, false, false, false, false, false, false, false, false, true, false, false, false, false, false, true, false, false, false, true, false, false, false, false, false, false, false, false, false, false, false, false, false, false, false, false, false, false, false, false, false, false, false, false] rfl rfl (any_of HT_.out (by kernel_rfl)) (fun _ _ _ h => h) (Or.inl ⟨by rfl, ?_⟩) ?_ ?_
                 rotate_left
                 ·intro w'
                  go_simp
                  with_reducible rfl
                 rotate_left
                 ·simp only [Act.put, List.setIfInBounds_toArray, List.set_cons_zero, List.set_cons_succ, i64_w, i32_w]
                  rfl
                 refine pure_ (i := 22) (N := some 45) (v := ?_) (a' := ?_) #[false, false, false, false, false, false, false, false, false, true, false, false, false, false, false, true, false, false, false, true, false, false, true, false, false, false, false, false, false, false, false, false, false, false, false, false, false, false, false, false, false, false, false, false] rfl rfl (any_of HT_.out (by kernel_rfl)) (fun _ _ _ h => h) (Or.inl ⟨by rfl, ?_⟩) ?_ ?_
                 rotate_left
                 ·intro w'
                  go_simp
                  with_reducible rfl
                 rotate_left
                 ·simp only [Act.put, List.setIfInBounds_toArray, List.set_cons_zero, List.set_cons_succ, i64_w, i32_w]
                  rfl
                 refine pure_ (i := 26) (N := some 49) (v := ?_) (a' := ?_) #[false, false, false, false, false, false, false, false, false, true, false, false, false, false, false, true, false, false, false, true, false, false, true, false, false, false, true, false, false, false, false, false, false, false, false, false, false, false, false, false, false, false, false, false] rfl rfl (any_of HT_.out (by kernel_rfl)) (fun _ _ _ h => h) (Or.inl ⟨by rfl, ?_⟩) ?_ ?_
                 rotate_left
                 ·intro w'
                  go_simp
                  with_reducible rfl
                 rotate_left
                 ·simp only [Act.put, List.setIfInBounds_toArray, List.set_cons_zero, List.set_cons_succ, i64_w, i32_w]
                  rfl
                 refine pure_ (i := 32) (N := some 55) (v := ?_) (a' := ?_) #[false, false, false, false, false, false, false, false, false, true, false, false, false, false, false, true, false, false, false, true, false, false, true, false, false, false, true, false, false, false, false, false, true, false, false, false, false, false, false, false, false, false, false, false] rfl rfl (any_of HT_.out (by kernel_rfl)) (fun _ _ _ h => h) (Or.inl ⟨by rfl, ?_⟩) ?_ ?_
                 rotate_left
                 ·intro w'
                  go_simp
                  with_reducible rfl
                 rotate_left
                 ·simp only [Act.put, List.setIfInBounds_toArray, List.set_cons_zero, List.set_cons_succ, i64_w, i32_w]
                  rfl
                 refine pure_ (i := 36) (N := some 59) (v := ?_) (a' := ?_) #[false, false, false, false, false, false, false, false, false, true, false, false, false, false, false, true, false, false, false, true, false, false, true, false, false, false, true, false, false, false, false, false, true, false, false, false, true, false, false, false, false, false, false, false] rfl rfl (any_of HT_.out (by kernel_rfl)) (fun _ _ _ h => h) (Or.inl ⟨by rfl, ?_⟩) ?_ ?_
                 rotate_left
                 ·intro w'
                  go_simp
                  with_reducible rfl
                 rotate_left
                 ·simp only [Act.put, List.setIfInBounds_toArray, List.set_cons_zero, List.set_cons_succ, i64_w, i32_w]
                  rfl
                 refine pure_ (i := 40) (N := some 63) (v := ?_) (a' := ?_) #[false, false, false, false, false, false, false, false, false, true, false, false, false, false, false, true, false, false, false, true, false, false, true, false, false, false, true, false, false, false, false, false, true, false, false, false, true, false, false, false, true, false, false, false] rfl rfl (any_of HT_.out (by kernel_rfl)) (fun _ _ _ h => h) (Or.inl ⟨by rfl, ?_⟩) ?_ ?_
                 rotate_left
                 ·intro w'
                  go_simp
                  with_reducible rfl
                 rotate_left
                 ·simp only [Act.put, List.setIfInBounds_toArray, List.set_cons_zero, List.set_cons_succ, i64_w, i32_w]
                  rfl
                 refine take_ (i := 0) (N := some 23) (v := ?_) (a' := ?_) #[true, false, false, false, false, false, false, false, false, true, false, false, false, false, false, true, false, false, false, true, false, false, true, false, false, false, true, false, false, false, false, false, true, false, false, false, true, false, false, false, true, false, false, false] rfl rfl (take_ofW HT_.out HW_.out (by kernel_rfl)) (fun _ _ _ h => h) (Or.inl ⟨by rfl, ?_⟩) hHeld ?_ ?_
                 rotate_left
                 ·rintro w' ⟨s0, s1, s2, s3, s4, s5, s6, s7, s8, s9⟩
                  go_simp
                  with_reducible rfl
                 rotate_left
                 ·simp only [Act.put, List.setIfInBounds_toArray, List.set_cons_zero, List.set_cons_succ, i64_w, i32_w]
                  rfl
                 refine take_ (i := 7) (N := some 30) (v := ?_) (a' := ?_) #[true, false, false, false, false, false, false, true, false, true, false, false, false, false, false, true, false, false, false, true, false, false, true, false, false, false, true, false, false, false, false, false, true, false, false, false, true, false, false, false, true, false, false, false] rfl rfl (take_ofW HT_.out HW_.out (by kernel_rfl)) (fun _ _ _ h => h) (Or.inl ⟨by rfl, ?_⟩) hHeld ?_ ?_
                 rotate_left
                 ·rintro w' ⟨s0, s1, s2, s3, s4, s5, s6, s7, s8, s9⟩
                  go_simp
                  with_reducible rfl
                 rotate_left
                 ·simp only [Act.put, List.setIfInBounds_toArray, List.set_cons_zero, List.set_cons_succ, i64_w, i32_w]
                  rfl
                 refine take_ (i := 10) (N := some 33) (v := ?_) (a' := ?_) #[true, false, false, false, false, false, false, true, false, true, true, false, false, false, false, true, false, false, false, true, false, false, true, false, false, false, true, false, false, false, false, false, true, false, false, false, true, false, false, false, true, false, false, false] rfl rfl (take_ofW HT_.out HW_.out (by kernel_rfl)) (fun _ _ _ h => h) (Or.inl ⟨by rfl, ?_⟩) hHeld ?_ ?_
                 rotate_left
                 ·rintro w' ⟨s0, s1, s2, s3, s4, s5, s6, s7, s8, s9⟩
                  go_simp
                  with_reducible rfl
                 rotate_left
                 ·simp only [Act.put, List.setIfInBounds_toArray, List.set_cons_zero, List.set_cons_succ, i64_w, i32_w]
                  rfl
                 refine pure_ (i := 11) (N := some 34) (v := ?_) (a' := ?_) #[true, false, false, false, false, false, false, true, false, true, true, true, false, false, false, true, false, false, false, true, false, false, true, false, false, false, true, false, false, false, false, false, true, false, false, false, true, false, false, false, true, false, false, false] rfl rfl (any_of HT_.out (by kernel_rfl)) (fun _ _ _ h => h) (Or.inl ⟨by rfl, ?_⟩) ?_ ?_
                 rotate_left
                 ·intro w'
                  go_simp
                  with_reducible rfl
                 rotate_left
                 ·simp only [Act.put, List.setIfInBounds_toArray, List.set_cons_zero, List.set_cons_succ, i64_w, i32_w]
                  rfl
                 refine take_ (i := 16) (N := some 39) (v := ?_) (a' := ?_) #[true, false, false, false, false, false, false, true, false, true, true, true, false, false, false, true, true, false, false, true, false, false, true, false, false, false, true, false, false, false, false, false, true, false, false, false, true, false, false, false, true, false, false, false] rfl rfl (take_ofW HT_.out HW_.out (by kernel_rfl)) (fun _ _ _ h => h) (Or.inl ⟨by rfl, ?_⟩) hHeld ?_ ?_
                 rotate_left
                 ·rintro w' ⟨s0, s1, s2, s3, s4, s5, s6, s7, s8, s9⟩
                  go_simp
                  with_reducible rfl
                 rotate_left
                 ·simp only [Act.put, List.setIfInBounds_toArray, List.set_cons_zero, List.set_cons_succ, i64_w, i32_w]
                  rfl
                 refine take_ (i := 23) (N := some 46) (v := ?_) (a' := ?_) #[true, false, false, false, false, false, false, true, false, true, true, true, false, false, false, true, true, false, false, true, false, false, true, true, false, false, true, false, false, false, false, false, true, false, false, false, true, false, false, false, true, false, false, false] rfl rfl (take_ofW HT_.out HW_.out (by kernel_rfl)) (fun _ _ _ h => h) (Or.inl ⟨by rfl, ?_⟩) hHeld ?_ ?_
                 rotate_left
                 ·rintro w' ⟨s0, s1, s2, s3, s4, s5, s6, s7, s8, s9⟩
                  go_simp
                  with_reducible rfl
                 rotate_left
                 ·simp only [Act.put, List.setIfInBounds_toArray, List.set_cons_zero, List.set_cons_succ, i64_w, i32_w]
                  rfl
                 refine take_ (i := 27) (N := some 50) (v := ?_) (a' := ?_) #[true, false, false, false, false, false, false, true, false, true, true, true, false, false, false, true, true, false, false, true, false, false, true, true, false, false, true, true, false, false, false, false, true, false, false, false, true, false, false, false, true, false, false, false] rfl rfl (take_ofW HT_.out HW_.out (by kernel_rfl)) (fun _ _ _ h => h) (Or.inl ⟨by rfl, ?_⟩) hHeld ?_ ?_
                 rotate_left
                 ·rintro w' ⟨s0, s1, s2, s3, s4, s5, s6, s7, s8, s9⟩
                  go_simp
                  with_reducible rfl
                 rotate_left
                 ·simp only [Act.put, List.setIfInBounds_toArray, List.set_cons_zero, List.set_cons_succ, i64_w, i32_w]
                  rfl
                 refine take_ (i := 33) (N := some 56) (v := ?_) (a' := ?_) #[true, false, false, false, false, false, false, true, false, true, true, true, false, false, false, true, true, false, false, true, false, false, true, true, false, false, true, true, false, false, false, false, true, true, false, false, true, false, false, false, true, false, false, false] rfl rfl (take_ofW HT_.out HW_.out (by kernel_rfl)) (fun _ _ _ h => h) (Or.inl ⟨by rfl, ?_⟩) hHeld ?_ ?_
                 rotate_left
                 ·rintro w' ⟨s0, s1, s2, s3, s4, s5, s6, s7, s8, s9⟩
                  go_simp
                  with_reducible rfl
                 rotate_left
                 ·simp only [Act.put, List.setIfInBounds_toArray, List.set_cons_zero, List.set_cons_succ, i64_w, i32_w]
                  rfl
                 refine take_ (i := 37) (N := some 60) (v := ?_) (a' := ?_) #[true, false, false, false, false, false, false, true, false, true, true, true, false, false, false, true, true, false, false, true, false, false, true, true, false, false, true, true, false, false, false, false, true, true, false, false, true, true, false, false, true, false, false, false] rfl rfl (take_ofW HT_.out HW_.out (by kernel_rfl)) (fun _ _ _ h => h) (Or.inl ⟨by rfl, ?_⟩) hHeld ?_ ?_
                 rotate_left
                 ·rintro w' ⟨s0, s1, s2, s3, s4, s5, s6, s7, s8, s9⟩
                  go_simp
                  with_reducible rfl
                 rotate_left
                 ·simp only [Act.put, List.setIfInBounds_toArray, List.set_cons_zero, List.set_cons_succ, i64_w, i32_w]
                  rfl
                 refine take_ (i := 41) (N := some 64) (v := ?_) (a' := ?_) #[true, false, false, false, false, false, false, true, false, true, true, true, false, false, false, true, true, false, false, true, false, false, true, true, false, false, true, true, false, false, false, false, true, true, false, false, true, true, false, false, true, true, false, false] rfl rfl (take_ofW HT_.out HW_.out (by kernel_rfl)) (fun _ _ _ h => h) (Or.inl ⟨by rfl, ?_⟩) hHeld ?_ ?_
                 rotate_left
                 ·rintro w' ⟨s0, s1, s2, s3, s4, s5, s6, s7, s8, s9⟩
                  go_simp
                  with_reducible rfl
                 rotate_left
                 ·simp only [Act.put, List.setIfInBounds_toArray, List.set_cons_zero, List.set_cons_succ, i64_w, i32_w]
                  rfl
                 refine one_ (i := 1) (N := some 24) #[true, true, false, false, false, false, false, true, false, true, true, true, false, false, false, true, true, false, false, true, false, false, true, true, false, false, true, true, false, false, false, false, true, true, false, false, true, true, false, false, true, true, false, false] rfl rfl (one_of HT_.out (by kernel_rfl)) (by decide) (fun K hK => ?_)
                 refine goes_ Try.func22 (by kernel_rfl) rfl #[.agg #[.int .i64 a0_0, .int .i64 a0_1, .int .i64 a0_2, .int .i64 a0_3, .int .i64 a0_4, .int .i64 a0_5, .bool a0_6, .bool a0_7, .string a0_8, .string a0_9]] (by rfl) rfl rfl (by (try simp only [List.map_toArray, List.map_cons, List.map_nil]); first | done | rfl | (simp only [List.length_drop, List.length_take]; rfl)) ?_
                 with_reducible refine (ip_head.calls a0_0 a0_1 a0_2 a0_3 a0_4 a0_5 a0_6 a0_7 a0_8 a0_9 t137 _ A13.out).mono ?_
                 rintro e w38 ⟨rfl, hb⟩
                 refine ⟨_, rfl, ?_⟩
                 have n0_ := Aside0.mk (blk_below (g := gb135) (by (with_reducible repeat (first | apply blk_drewN | apply blk_drew | apply blk_alloc)); exact BK135.out) hb)
                 have n1_ := Aside0.mk (below_step (by repeat (first | (with_reducible first | exact HB.out | apply below_alloc | apply pw_below_drewN | apply below_drew1 | refine below_set ?_ GE135.out) | exact HB.out)) hb)
                 clear BK135
                 clear HB
                 have BK135 := n0_
                 have HB := n1_
                 clear n0_ n1_
                 (try clear hb)
                 (try clear hb2)
                 (try clear hk)
                 (try clear hi)
                 refine hK.out _ _ ⟨(blk_cell BK135.out 0).trans rfl, (blk_cell BK135.out 1).trans rfl, (blk_cell BK135.out 2).trans rfl, (blk_cell BK135.out 3).trans rfl, (blk_cell BK135.out 4).trans rfl, (blk_cell BK135.out 5).trans rfl, (blk_cell BK135.out 6).trans rfl, (blk_cell BK135.out 7).trans rfl, (blk_cell BK135.out 8).trans rfl, (blk_cell BK135.out 9).trans rfl⟩ (fun hHeld => ?_)
                 clear hK K
                 refine norm_ (a' := ?_) ?_ ?_
                 rotate_left
                 ·show Act.put _ (some 24) _ = _
                  simp only [Act.put, List.setIfInBounds_toArray, List.set_cons_zero, List.set_cons_succ, i64_w, i32_w]
                  rfl
                 refine pure_ (i := 2) (N := some 25) (v := ?_) (a' := ?_) #[true, true, true, false, false, false, false, true, false, true, true, true, false, false, false, true, true, false, false, true, false, false, true, true, false, false, true, true, false, false, false, false, true, true, false, false, true, true, false, false, true, true, false, false] rfl rfl (any_of HT_.out (by kernel_rfl)) (fun _ _ _ h => h) (Or.inl ⟨by rfl, ?_⟩) ?_ ?_
                 rotate_left
                 ·intro w'
                  go_simp
                  with_reducible rfl
                 rotate_left
                 ·simp only [Act.put, List.setIfInBounds_toArray, List.set_cons_zero, List.set_cons_succ, i64_w, i32_w]
                  rfl
                 refine pure_ (i := 3) (N := some 26) (v := ?_) (a' := ?_) #[true, true, true, true, false, false, false, true, false, true, true, true, false, false, false, true, true, false, false, true, false, false, true, true, false, false, true, true, false, false, false, false, true, true, false, false, true, true, false, false, true, true, false, false] rfl rfl (any_of HT_.out (by kernel_rfl)) (fun _ _ _ h => h) (Or.inl ⟨by rfl, ?_⟩) ?_ ?_
                 rotate_left
                 ·intro w'
                  go_simp
                  with_reducible rfl
                 rotate_left
                 ·simp only [Act.put, List.setIfInBounds_toArray, List.set_cons_zero, List.set_cons_succ, i64_w, i32_w]
                  rfl
                 refine one_ (i := 4) (N := some 27) #[true, true, true, true, true, false, false, true, false, true, true, true, false, false, false, true, true, false, false, true, false, false, true, true, false, false, true, true, false, false, false, false, true, true, false, false, true, true, false, false, true, true, false, false] rfl rfl (one_of HT_.out (by kernel_rfl)) (by decide) (fun K hK => ?_)
                 refine goes_ Try.func21 (by kernel_rfl) rfl #[.int .i64 (Go.bits .or .i64 64 (wrap64 (Int.tdiv t137 4))), .int .i64 1] (by rfl) rfl rfl (by (try simp only [List.map_toArray, List.map_cons, List.map_nil]); first | done | rfl | (simp only [List.length_drop, List.length_take]; rfl)) ?_
                 with_reducible refine (ip_num.calls kj9 (Go.bits .or .i64 64 (wrap64 (Int.tdiv t137 4))) 1 t138 _ A14.out).mono ?_
                 rintro e w39 ⟨rfl, hb⟩
                 refine ⟨_, rfl, ?_⟩
                 have n0_ := Aside0.mk (blk_below (g := gb135) (by (with_reducible repeat (first | apply blk_drewN | apply blk_drew | apply blk_alloc)); exact BK135.out) hb)
                 have n1_ := Aside0.mk (below_step (by repeat (first | (with_reducible first | exact HB.out | apply below_alloc | apply pw_below_drewN | apply below_drew1 | refine below_set ?_ GE135.out) | exact HB.out)) hb)
                 clear BK135
                 clear HB
                 have BK135 := n0_
                 have HB := n1_
                 clear n0_ n1_
                 (try clear hb)
                 (try clear hb2)
                 (try clear hk)
                 (try clear hi)
                 refine hK.out _ _ ⟨(blk_cell BK135.out 0).trans rfl, (blk_cell BK135.out 1).trans rfl, (blk_cell BK135.out 2).trans rfl, (blk_cell BK135.out 3).trans rfl, (blk_cell BK135.out 4).trans rfl, (blk_cell BK135.out 5).trans rfl, (blk_cell BK135.out 6).trans rfl, (blk_cell BK135.out 7).trans rfl, (blk_cell BK135.out 8).trans rfl, (blk_cell BK135.out 9).trans rfl⟩ (fun hHeld => ?_)
                 clear hK K
                 refine norm_ (a' := ?_) ?_ ?_
                 rotate_left
                 ·show Act.put _ (some 27) _ = _
                  simp only [Act.put, List.setIfInBounds_toArray, List.set_cons_zero, List.set_cons_succ, i64_w, i32_w]
                  rfl
                 refine one_ (i := 5) (N := some 28) #[true, true, true, true, true, true, false, true, false, true, true, true, false, false, false, true, true, false, false, true, false, false, true, true, false, false, true, true, false, false, false, false, true, true, false, false, true, true, false, false, true, true, false, false] rfl rfl (one_of HT_.out (by kernel_rfl)) (by decide) (fun K hK => ?_)
                 refine goes_ Try.func21 (by kernel_rfl) rfl #[.int .i64 0, .int .i64 1] (by rfl) rfl rfl (by (try simp only [List.map_toArray, List.map_cons, List.map_nil]); first | done | rfl | (simp only [List.length_drop, List.length_take]; rfl)) ?_
                 with_reducible refine (ip_num.calls kj9 0 1 t139 _ A15.out).mono ?_
                 rintro e w40 ⟨rfl, hb⟩
                 refine ⟨_, rfl, ?_⟩
                 have n0_ := Aside0.mk (blk_below (g := gb135) (by (with_reducible repeat (first | apply blk_drewN | apply blk_drew | apply blk_alloc)); exact BK135.out) hb)
                 have n1_ := Aside0.mk (below_step (by repeat (first | (with_reducible first | exact HB.out | apply below_alloc | apply pw_below_drewN | apply below_drew1 | refine below_set ?_ GE135.out) | exact HB.out)) hb)
                 clear BK135
                 clear HB
                 have BK135 := n0_
                 have HB := n1_
                 clear n0_ n1_
                 (try clear hb)
                 (try clear hb2)
                 (try clear hk)
                 (try clear hi)
                 refine hK.out _ _ ⟨(blk_cell BK135.out 0).trans rfl, (blk_cell BK135.out 1).trans rfl, (blk_cell BK135.out 2).trans rfl, (blk_cell BK135.out 3).trans rfl, (blk_cell BK135.out 4).trans rfl, (blk_cell BK135.out 5).trans rfl, (blk_cell BK135.out 6).trans rfl, (blk_cell BK135.out 7).trans rfl, (blk_cell BK135.out 8).trans rfl, (blk_cell BK135.out 9).trans rfl⟩ (fun hHeld => ?_)
                 clear hK K
                 refine norm_ (a' := ?_) ?_ ?_
                 rotate_left
                 ·show Act.put _ (some 28) _ = _
                  simp only [Act.put, List.setIfInBounds_toArray, List.set_cons_zero, List.set_cons_succ, i64_w, i32_w]
                  rfl
                 refine pure_ (i := 6) (N := some 29) (v := ?_) (a' := ?_) #[true, true, true, true, true, true, true, true, false, true, true, true, false, false, false, true, true, false, false, true, false, false, true, true, false, false, true, true, false, false, false, false, true, true, false, false, true, true, false, false, true, true, false, false] rfl rfl (any_of HT_.out (by kernel_rfl)) (fun _ _ _ h => h) (Or.inl ⟨by rfl, ?_⟩) ?_ ?_
                 rotate_left
                 ·intro w'
                  go_simp
                  first | (with_reducible rfl) | ((repeat (first | rw [if_pos (by simp only [ByteArray.size_extract, ByteArray.size_append, eq_iff_iff, iff_true, iff_false, Nat.not_lt] at *; first | omega | (simp only [ByteArray.size, List.size_toArray, List.length_cons, List.length_nil] at *; omega))] | rw [if_neg (by simp only [ByteArray.size_extract, ByteArray.size_append, eq_iff_iff, iff_true, iff_false, Nat.not_lt] at *; first | omega | (simp only [ByteArray.size, List.size_toArray, List.length_cons, List.length_nil] at *; omega))])); try with_reducible rfl)
                 rotate_left
                 ·simp only [Act.put, List.setIfInBounds_toArray, List.set_cons_zero, List.set_cons_succ, i64_w, i32_w]
                  rfl
                 refine one_ (i := 8) (N := some 31) #[true, true, true, true, true, true, true, true, true, true, true, true, false, false, false, true, true, false, false, true, false, false, true, true, false, false, true, true, false, false, false, false, true, true, false, false, true, true, false, false, true, true, false, false] rfl rfl (one_of HT_.out (by kernel_rfl)) (by decide) (fun K hK => ?_)
                 refine goes_ Try.func22 (by kernel_rfl) rfl #[.agg #[.int .i64 a0_0, .int .i64 a0_1, .int .i64 a0_2, .int .i64 a0_3, .int .i64 a0_4, .int .i64 a0_5, .bool a0_6, .bool a0_7, .string a0_8, .string a0_9]] (by rfl) rfl rfl (by (try simp only [List.map_toArray, List.map_cons, List.map_nil]); first | done | rfl | (simp only [List.length_drop, List.length_take]; rfl)) ?_
                 with_reducible refine (ip_head.calls a0_0 a0_1 a0_2 a0_3 a0_4 a0_5 a0_6 a0_7 a0_8 a0_9 t140 _ A17.out).mono ?_
                 rintro e w41 ⟨rfl, hb⟩
                 refine ⟨_, rfl, ?_⟩
                 have n0_ := Aside0.mk (blk_below (g := gb135) (by (with_reducible repeat (first | apply blk_drewN | apply blk_drew | apply blk_alloc)); exact BK135.out) hb)
                 have n1_ := Aside0.mk (below_step (by repeat (first | (with_reducible first | exact HB.out | apply below_alloc | apply pw_below_drewN | apply below_drew1 | refine below_set ?_ GE135.out) | exact HB.out)) hb)
                 clear BK135
                 clear HB
                 have BK135 := n0_
                 have HB := n1_
                 clear n0_ n1_
                 (try clear hb)
                 (try clear hb2)
                 (try clear hk)
                 (try clear hi)
                 refine hK.out _ _ ⟨(blk_cell BK135.out 0).trans rfl, (blk_cell BK135.out 1).trans rfl, (blk_cell BK135.out 2).trans rfl, (blk_cell BK135.out 3).trans rfl, (blk_cell BK135.out 4).trans rfl, (blk_cell BK135.out 5).trans rfl, (blk_cell BK135.out 6).trans rfl, (blk_cell BK135.out 7).trans rfl, (blk_cell BK135.out 8).trans rfl, (blk_cell BK135.out 9).trans rfl⟩ (fun hHeld => ?_)
                 clear hK K
                 refine norm_ (a' := ?_) ?_ ?_
                 rotate_left
                 ·show Act.put _ (some 31) _ = _
                  simp only [Act.put, List.setIfInBounds_toArray, List.set_cons_zero, List.set_cons_succ, i64_w, i32_w]
                  rfl
                 refine pure_ (i := 12) (N := some 35) (v := ?_) (a' := ?_) #[true, true, true, true, true, true, true, true, true, true, true, true, true, false, false, true, true, false, false, true, false, false, true, true, false, false, true, true, false, false, false, false, true, true, false, false, true, true, false, false, true, true, false, false] rfl rfl (any_of HT_.out (by kernel_rfl)) (fun _ _ _ h => h) (Or.inl ⟨by rfl, ?_⟩) ?_ ?_
                 rotate_left
                 ·intro w'
                  go_simp
                  with_reducible rfl
                 rotate_left
                 ·simp only [Act.put, List.setIfInBounds_toArray, List.set_cons_zero, List.set_cons_succ, i64_w, i32_w]
                  rfl
                 refine one_ (i := 13) (N := some 36) #[true, true, true, true, true, true, true, true, true, true, true, true, true, true, false, true, true, false, false, true, false, false, true, true, false, false, true, true, false, false, false, false, true, true, false, false, true, true, false, false, true, true, false, false] rfl rfl (one_of HT_.out (by kernel_rfl)) (by decide) (fun K hK => ?_)
                 refine goes_ Try.func21 (by kernel_rfl) rfl #[.int .i64 (wrap64 (t140 + (a0_9.size : Int))), .int .i64 2] (by rfl) rfl rfl (by (try simp only [List.map_toArray, List.map_cons, List.map_nil]); first | done | rfl | (simp only [List.length_drop, List.length_take]; rfl)) ?_
                 with_reducible refine (ip_num.calls kj9 (wrap64 (t140 + (a0_9.size : Int))) 2 t141 _ A18.out).mono ?_
                 rintro e w42 ⟨rfl, hb⟩
                 refine ⟨_, rfl, ?_⟩
                 have n0_ := Aside0.mk (blk_below (g := gb135) (by (with_reducible repeat (first | apply blk_drewN | apply blk_drew | apply blk_alloc)); exact BK135.out) hb)
                 have n1_ := Aside0.mk (below_step (by repeat (first | (with_reducible first | exact HB.out | apply below_alloc | apply pw_below_drewN | apply below_drew1 | refine below_set ?_ GE135.out) | exact HB.out)) hb)
                 clear BK135
                 clear HB
                 have BK135 := n0_
                 have HB := n1_
                 clear n0_ n1_
                 (try clear hb)
                 (try clear hb2)
                 (try clear hk)
                 (try clear hi)
                 refine hK.out _ _ ⟨(blk_cell BK135.out 0).trans rfl, (blk_cell BK135.out 1).trans rfl, (blk_cell BK135.out 2).trans rfl, (blk_cell BK135.out 3).trans rfl, (blk_cell BK135.out 4).trans rfl, (blk_cell BK135.out 5).trans rfl, (blk_cell BK135.out 6).trans rfl, (blk_cell BK135.out 7).trans rfl, (blk_cell BK135.out 8).trans rfl, (blk_cell BK135.out 9).trans rfl⟩ (fun hHeld => ?_)
                 clear hK K
                 refine norm_ (a' := ?_) ?_ ?_
                 rotate_left
                 ·show Act.put _ (some 36) _ = _
                  simp only [Act.put, List.setIfInBounds_toArray, List.set_cons_zero, List.set_cons_succ, i64_w, i32_w]
                  rfl
                 refine pure_ (i := 14) (N := some 37) (v := ?_) (a' := ?_) #[true, true, true, true, true, true, true, true, true, true, true, true, true, true, true, true, true, false, false, true, false, false, true, true, false, false, true, true, false, false, false, false, true, true, false, false, true, true, false, false, true, true, false, false] rfl rfl (any_of HT_.out (by kernel_rfl)) (fun _ _ _ h => h) (Or.inl ⟨by rfl, ?_⟩) ?_ ?_
                 rotate_left
                 ·intro w'
                  go_simp
                  first | (with_reducible rfl) | ((repeat (first | rw [if_pos (by simp only [ByteArray.size_extract, ByteArray.size_append, eq_iff_iff, iff_true, iff_false, Nat.not_lt] at *; first | omega | (simp only [ByteArray.size, List.size_toArray, List.length_cons, List.length_nil] at *; omega))] | rw [if_neg (by simp only [ByteArray.size_extract, ByteArray.size_append, eq_iff_iff, iff_true, iff_false, Nat.not_lt] at *; first | omega | (simp only [ByteArray.size, List.size_toArray, List.length_cons, List.length_nil] at *; omega))])); try with_reducible rfl)
                 rotate_left
                 ·simp only [Act.put, List.setIfInBounds_toArray, List.set_cons_zero, List.set_cons_succ, i64_w, i32_w]
                  rfl
                 refine one_ (i := 17) (N := some 40) #[true, true, true, true, true, true, true, true, true, true, true, true, true, true, true, true, true, true, false, true, false, false, true, true, false, false, true, true, false, false, false, false, true, true, false, false, true, true, false, false, true, true, false, false] rfl rfl (one_of HT_.out (by kernel_rfl)) (by decide) (fun K hK => ?_)
                 refine goes_ Try.func21 (by kernel_rfl) rfl #[.int .i64 a0_4, .int .i64 2] (by rfl) rfl rfl (by (try simp only [List.map_toArray, List.map_cons, List.map_nil]); first | done | rfl | (simp only [List.length_drop, List.length_take]; rfl)) ?_
                 with_reducible refine (ip_num.calls kj9 a0_4 2 t142 _ A20.out).mono ?_
                 rintro e w43 ⟨rfl, hb⟩
                 refine ⟨_, rfl, ?_⟩
                 have n0_ := Aside0.mk (blk_below (g := gb135) (by (with_reducible repeat (first | apply blk_drewN | apply blk_drew | apply blk_alloc)); exact BK135.out) hb)
                 have n1_ := Aside0.mk (below_step (by repeat (first | (with_reducible first | exact HB.out | apply below_alloc | apply pw_below_drewN | apply below_drew1 | refine below_set ?_ GE135.out) | exact HB.out)) hb)
                 clear BK135
                 clear HB
                 have BK135 := n0_
                 have HB := n1_
                 clear n0_ n1_
                 (try clear hb)
                 (try clear hb2)
                 (try clear hk)
                 (try clear hi)
                 refine hK.out _ _ ⟨(blk_cell BK135.out 0).trans rfl, (blk_cell BK135.out 1).trans rfl, (blk_cell BK135.out 2).trans rfl, (blk_cell BK135.out 3).trans rfl, (blk_cell BK135.out 4).trans rfl, (blk_cell BK135.out 5).trans rfl, (blk_cell BK135.out 6).trans rfl, (blk_cell BK135.out 7).trans rfl, (blk_cell BK135.out 8).trans rfl, (blk_cell BK135.out 9).trans rfl⟩ (fun hHeld => ?_)
                 clear hK K
                 refine norm_ (a' := ?_) ?_ ?_
                 rotate_left
                 ·show Act.put _ (some 40) _ = _
                  simp only [Act.put, List.setIfInBounds_toArray, List.set_cons_zero, List.set_cons_succ, i64_w, i32_w]
                  rfl
                 refine pure_ (i := 18) (N := some 41) (v := ?_) (a' := ?_) #[true, true, true, true, true, true, true, true, true, true, true, true, true, true, true, true, true, true, true, true, false, false, true, true, false, false, true, true, false, false, false, false, true, true, false, false, true, true, false, false, true, true, false, false] rfl rfl (any_of HT_.out (by kernel_rfl)) (fun _ _ _ h => h) (Or.inl ⟨by rfl, ?_⟩) ?_ ?_
                 rotate_left
                 ·intro w'
                  go_simp
                  first | (with_reducible rfl) | ((repeat (first | rw [if_pos (by simp only [ByteArray.size_extract, ByteArray.size_append, eq_iff_iff, iff_true, iff_false, Nat.not_lt] at *; first | omega | (simp only [ByteArray.size, List.size_toArray, List.length_cons, List.length_nil] at *; omega))] | rw [if_neg (by simp only [ByteArray.size_extract, ByteArray.size_append, eq_iff_iff, iff_true, iff_false, Nat.not_lt] at *; first | omega | (simp only [ByteArray.size, List.size_toArray, List.length_cons, List.length_nil] at *; omega))])); try with_reducible rfl)
                 rotate_left
                 ·simp only [Act.put, List.setIfInBounds_toArray, List.set_cons_zero, List.set_cons_succ, i64_w, i32_w]
                  rfl
                 refine one_ (i := 20) (N := some 43) #[true, true, true, true, true, true, true, true, true, true, true, true, true, true, true, true, true, true, true, true, true, false, true, true, false, false, true, true, false, false, false, false, true, true, false, false, true, true, false, false, true, true, false, false] rfl rfl (one_of HT_.out (by kernel_rfl)) (by decide) (fun K hK => ?_)
                 refine goes_ Try.func21 (by kernel_rfl) rfl #[.int .i64 x5_9, .int .i64 2] (by rfl) rfl rfl (by (try simp only [List.map_toArray, List.map_cons, List.map_nil]); first | done | rfl | (simp only [List.length_drop, List.length_take]; rfl)) ?_
                 with_reducible refine (ip_num.calls kj9 x5_9 2 t143 _ A22.out).mono ?_
                 rintro e w44 ⟨rfl, hb⟩
                 refine ⟨_, rfl, ?_⟩
                 have n0_ := Aside0.mk (blk_below (g := gb135) (by (with_reducible repeat (first | apply blk_drewN | apply blk_drew | apply blk_alloc)); exact BK135.out) hb)
                 have n1_ := Aside0.mk (below_step (by repeat (first | (with_reducible first | exact HB.out | apply below_alloc | apply pw_below_drewN | apply below_drew1 | refine below_set ?_ GE135.out) | exact HB.out)) hb)
                 clear BK135
                 clear HB
                 have BK135 := n0_
                 have HB := n1_
                 clear n0_ n1_
                 (try clear hb)
                 (try clear hb2)
                 (try clear hk)
                 (try clear hi)
                 refine hK.out _ _ ⟨(blk_cell BK135.out 0).trans rfl, (blk_cell BK135.out 1).trans rfl, (blk_cell BK135.out 2).trans rfl, (blk_cell BK135.out 3).trans rfl, (blk_cell BK135.out 4).trans rfl, (blk_cell BK135.out 5).trans rfl, (blk_cell BK135.out 6).trans rfl, (blk_cell BK135.out 7).trans rfl, (blk_cell BK135.out 8).trans rfl, (blk_cell BK135.out 9).trans rfl⟩ (fun hHeld => ?_)
                 clear hK K
                 refine norm_ (a' := ?_) ?_ ?_
                 rotate_left
                 ·show Act.put _ (some 43) _ = _
                  simp only [Act.put, List.setIfInBounds_toArray, List.set_cons_zero, List.set_cons_succ, i64_w, i32_w]
                  rfl
                 refine pure_ (i := 21) (N := some 44) (v := ?_) (a' := ?_) #[true, true, true, true, true, true, true, true, true, true, true, true, true, true, true, true, true, true, true, true, true, true, true, true, false, false, true, true, false, false, false, false, true, true, false, false, true, true, false, false, true, true, false, false] rfl rfl (any_of HT_.out (by kernel_rfl)) (fun _ _ _ h => h) (Or.inl ⟨by rfl, ?_⟩) ?_ ?_
                 rotate_left
                 ·intro w'
                  go_simp
                  first | (with_reducible rfl) | ((repeat (first | rw [if_pos (by simp only [ByteArray.size_extract, ByteArray.size_append, eq_iff_iff, iff_true, iff_false, Nat.not_lt] at *; first | omega | (simp only [ByteArray.size, List.size_toArray, List.length_cons, List.length_nil] at *; omega))] | rw [if_neg (by simp only [ByteArray.size_extract, ByteArray.size_append, eq_iff_iff, iff_true, iff_false, Nat.not_lt] at *; first | omega | (simp only [ByteArray.size, List.size_toArray, List.length_cons, List.length_nil] at *; omega))])); try with_reducible rfl)
                 rotate_left
                 ·simp only [Act.put, List.setIfInBounds_toArray, List.set_cons_zero, List.set_cons_succ, i64_w, i32_w]
                  rfl
                 refine one_ (i := 24) (N := some 47) #[true, true, true, true, true, true, true, true, true, true, true, true, true, true, true, true, true, true, true, true, true, true, true, true, true, false, true, true, false, false, false, false, true, true, false, false, true, true, false, false, true, true, false, false] rfl rfl (one_of HT_.out (by kernel_rfl)) (by decide) (fun K hK => ?_)
                 refine goes_ Try.func21 (by kernel_rfl) rfl #[.int .i64 a0_2, .int .i64 1] (by rfl) rfl rfl (by (try simp only [List.map_toArray, List.map_cons, List.map_nil]); first | done | rfl | (simp only [List.length_drop, List.length_take]; rfl)) ?_
                 with_reducible refine (ip_num.calls kj9 a0_2 1 t144 _ A24.out).mono ?_
                 rintro e w45 ⟨rfl, hb⟩
                 refine ⟨_, rfl, ?_⟩
                 have n0_ := Aside0.mk (blk_below (g := gb135) (by (with_reducible repeat (first | apply blk_drewN | apply blk_drew | apply blk_alloc)); exact BK135.out) hb)
                 have n1_ := Aside0.mk (below_step (by repeat (first | (with_reducible first | exact HB.out | apply below_alloc | apply pw_below_drewN | apply below_drew1 | refine below_set ?_ GE135.out) | exact HB.out)) hb)
                 clear BK135
                 clear HB
                 have BK135 := n0_
                 have HB := n1_
                 clear n0_ n1_
                 (try clear hb)
                 (try clear hb2)
                 (try clear hk)
                 (try clear hi)
                 refine hK.out _ _ ⟨(blk_cell BK135.out 0).trans rfl, (blk_cell BK135.out 1).trans rfl, (blk_cell BK135.out 2).trans rfl, (blk_cell BK135.out 3).trans rfl, (blk_cell BK135.out 4).trans rfl, (blk_cell BK135.out 5).trans rfl, (blk_cell BK135.out 6).trans rfl, (blk_cell BK135.out 7).trans rfl, (blk_cell BK135.out 8).trans rfl, (blk_cell BK135.out 9).trans rfl⟩ (fun hHeld => ?_)
                 clear hK K
                 refine norm_ (a' := ?_) ?_ ?_
                 rotate_left
                 ·show Act.put _ (some 47) _ = _
                  simp only [Act.put, List.setIfInBounds_toArray, List.set_cons_zero, List.set_cons_succ, i64_w, i32_w]
                  rfl
                 refine pure_ (i := 25) (N := some 48) (v := ?_) (a' := ?_) #[true, true, true, true, true, true, true, true, true, true, true, true, true, true, true, true, true, true, true, true, true, true, true, true, true, true, true, true, false, false, false, false, true, true, false, false, true, true, false, false, true, true, false, false] rfl rfl (any_of HT_.out (by kernel_rfl)) (fun _ _ _ h => h) (Or.inl ⟨by rfl, ?_⟩) ?_ ?_
                 rotate_left
                 ·intro w'
                  go_simp
                  first | (with_reducible rfl) | ((repeat (first | rw [if_pos (by simp only [ByteArray.size_extract, ByteArray.size_append, eq_iff_iff, iff_true, iff_false, Nat.not_lt] at *; first | omega | (simp only [ByteArray.size, List.size_toArray, List.length_cons, List.length_nil] at *; omega))] | rw [if_neg (by simp only [ByteArray.size_extract, ByteArray.size_append, eq_iff_iff, iff_true, iff_false, Nat.not_lt] at *; first | omega | (simp only [ByteArray.size, List.size_toArray, List.length_cons, List.length_nil] at *; omega))])); try with_reducible rfl)
                 rotate_left
                 ·simp only [Act.put, List.setIfInBounds_toArray, List.set_cons_zero, List.set_cons_succ, i64_w, i32_w]
                  rfl
                 refine one_ (i := 28) (N := some 51) #[true, true, true, true, true, true, true, true, true, true, true, true, true, true, true, true, true, true, true, true, true, true, true, true, true, true, true, true, true, false, false, false, true, true, false, false, true, true, false, false, true, true, false, false] rfl rfl (one_of HT_.out (by kernel_rfl)) (by decide) (fun K hK => ?_)
                 refine goes_ Try.func21 (by kernel_rfl) rfl #[.int .i64 a0_3, .int .i64 1] (by rfl) rfl rfl (by (try simp only [List.map_toArray, List.map_cons, List.map_nil]); first | done | rfl | (simp only [List.length_drop, List.length_take]; rfl)) ?_
                 with_reducible refine (ip_num.calls kj9 a0_3 1 t145 _ A26.out).mono ?_
                 rintro e w46 ⟨rfl, hb⟩
                 refine ⟨_, rfl, ?_⟩
                 have n0_ := Aside0.mk (blk_below (g := gb135) (by (with_reducible repeat (first | apply blk_drewN | apply blk_drew | apply blk_alloc)); exact BK135.out) hb)
                 have n1_ := Aside0.mk (below_step (by repeat (first | (with_reducible first | exact HB.out | apply below_alloc | apply pw_below_drewN | apply below_drew1 | refine below_set ?_ GE135.out) | exact HB.out)) hb)
                 clear BK135
                 clear HB
                 have BK135 := n0_
                 have HB := n1_
                 clear n0_ n1_
                 (try clear hb)
                 (try clear hb2)
                 (try clear hk)
                 (try clear hi)
                 refine hK.out _ _ ⟨(blk_cell BK135.out 0).trans rfl, (blk_cell BK135.out 1).trans rfl, (blk_cell BK135.out 2).trans rfl, (blk_cell BK135.out 3).trans rfl, (blk_cell BK135.out 4).trans rfl, (blk_cell BK135.out 5).trans rfl, (blk_cell BK135.out 6).trans rfl, (blk_cell BK135.out 7).trans rfl, (blk_cell BK135.out 8).trans rfl, (blk_cell BK135.out 9).trans rfl⟩ (fun hHeld => ?_)
                 clear hK K
                 refine norm_ (a' := ?_) ?_ ?_
                 rotate_left
                 ·show Act.put _ (some 51) _ = _
                  simp only [Act.put, List.setIfInBounds_toArray, List.set_cons_zero, List.set_cons_succ, i64_w, i32_w]
                  rfl
                 refine pure_ (i := 29) (N := some 52) (v := ?_) (a' := ?_) #[true, true, true, true, true, true, true, true, true, true, true, true, true, true, true, true, true, true, true, true, true, true, true, true, true, true, true, true, true, true, false, false, true, true, false, false, true, true, false, false, true, true, false, false] rfl rfl (any_of HT_.out (by kernel_rfl)) (fun _ _ _ h => h) (Or.inl ⟨by rfl, ?_⟩) ?_ ?_
                 rotate_left
                 ·intro w'
                  go_simp
                  first | (with_reducible rfl) | ((repeat (first | rw [if_pos (by simp only [ByteArray.size_extract, ByteArray.size_append, eq_iff_iff, iff_true, iff_false, Nat.not_lt] at *; first | omega | (simp only [ByteArray.size, List.size_toArray, List.length_cons, List.length_nil] at *; omega))] | rw [if_neg (by simp only [ByteArray.size_extract, ByteArray.size_append, eq_iff_iff, iff_true, iff_false, Nat.not_lt] at *; first | omega | (simp only [ByteArray.size, List.size_toArray, List.length_cons, List.length_nil] at *; omega))])); try with_reducible rfl)
                 rotate_left
                 ·simp only [Act.put, List.setIfInBounds_toArray, List.set_cons_zero, List.set_cons_succ, i64_w, i32_w]
                  rfl
                 refine one_ (i := 30) (N := some 53) #[true, true, true, true, true, true, true, true, true, true, true, true, true, true, true, true, true, true, true, true, true, true, true, true, true, true, true, true, true, true, true, false, true, true, false, false, true, true, false, false, true, true, false, false] rfl rfl (one_of HT_.out (by kernel_rfl)) (by decide) (fun K hK => ?_)
                 refine goes_ Try.func21 (by kernel_rfl) rfl #[.int .i64 0, .int .i64 2] (by rfl) rfl rfl (by (try simp only [List.map_toArray, List.map_cons, List.map_nil]); first | done | rfl | (simp only [List.length_drop, List.length_take]; rfl)) ?_
                 with_reducible refine (ip_num.calls kj9 0 2 t146 _ A28.out).mono ?_
                 rintro e w47 ⟨rfl, hb⟩
                 refine ⟨_, rfl, ?_⟩
                 have n0_ := Aside0.mk (blk_below (g := gb135) (by (with_reducible repeat (first | apply blk_drewN | apply blk_drew | apply blk_alloc)); exact BK135.out) hb)
                 have n1_ := Aside0.mk (below_step (by repeat (first | (with_reducible first | exact HB.out | apply below_alloc | apply pw_below_drewN | apply below_drew1 | refine below_set ?_ GE135.out) | exact HB.out)) hb)
                 clear BK135
                 clear HB
                 have BK135 := n0_
                 have HB := n1_
                 clear n0_ n1_
                 (try clear hb)
                 (try clear hb2)
                 (try clear hk)
                 (try clear hi)
                 refine hK.out _ _ ⟨(blk_cell BK135.out 0).trans rfl, (blk_cell BK135.out 1).trans rfl, (blk_cell BK135.out 2).trans rfl, (blk_cell BK135.out 3).trans rfl, (blk_cell BK135.out 4).trans rfl, (blk_cell BK135.out 5).trans rfl, (blk_cell BK135.out 6).trans rfl, (blk_cell BK135.out 7).trans rfl, (blk_cell BK135.out 8).trans rfl, (blk_cell BK135.out 9).trans rfl⟩ (fun hHeld => ?_)
                 clear hK K
                 refine norm_ (a' := ?_) ?_ ?_
                 rotate_left
                 ·show Act.put _ (some 53) _ = _
                  simp only [Act.put, List.setIfInBounds_toArray, List.set_cons_zero, List.set_cons_succ, i64_w, i32_w]
                  rfl
                 refine pure_ (i := 31) (N := some 54) (v := ?_) (a' := ?_) #[true, true, true, true, true, true, true, true, true, true, true, true, true, true, true, true, true, true, true, true, true, true, true, true, true, true, true, true, true, true, true, true, true, true, false, false, true, true, false, false, true, true, false, false] rfl rfl (any_of HT_.out (by kernel_rfl)) (fun _ _ _ h => h) (Or.inl ⟨by rfl, ?_⟩) ?_ ?_
                 rotate_left
                 ·intro w'
                  go_simp
                  first | (with_reducible rfl) | ((repeat (first | rw [if_pos (by simp only [ByteArray.size_extract, ByteArray.size_append, eq_iff_iff, iff_true, iff_false, Nat.not_lt] at *; first | omega | (simp only [ByteArray.size, List.size_toArray, List.length_cons, List.length_nil] at *; omega))] | rw [if_neg (by simp only [ByteArray.size_extract, ByteArray.size_append, eq_iff_iff, iff_true, iff_false, Nat.not_lt] at *; first | omega | (simp only [ByteArray.size, List.size_toArray, List.length_cons, List.length_nil] at *; omega))])); try with_reducible rfl)
                 rotate_left
                 ·simp only [Act.put, List.setIfInBounds_toArray, List.set_cons_zero, List.set_cons_succ, i64_w, i32_w]
                  rfl
                 refine one_ (i := 34) (N := some 57) #[true, true, true, true, true, true, true, true, true, true, true, true, true, true, true, true, true, true, true, true, true, true, true, true, true, true, true, true, true, true, true, true, true, true, true, false, true, true, false, false, true, true, false, false] rfl rfl (one_of HT_.out (by kernel_rfl)) (by decide) (fun K hK => ?_)
                 refine goes_ Try.func21 (by kernel_rfl) rfl #[.int .i64 a0_0, .int .i64 4] (by rfl) rfl rfl (by (try simp only [List.map_toArray, List.map_cons, List.map_nil]); first | done | rfl | (simp only [List.length_drop, List.length_take]; rfl)) ?_
                 with_reducible refine (ip_num.calls kj9 a0_0 4 t147 _ A30.out).mono ?_
                 rintro e w48 ⟨rfl, hb⟩
                 refine ⟨_, rfl, ?_⟩
                 have n0_ := Aside0.mk (blk_below (g := gb135) (by (with_reducible repeat (first | apply blk_drewN | apply blk_drew | apply blk_alloc)); exact BK135.out) hb)
                 have n1_ := Aside0.mk (below_step (by repeat (first | (with_reducible first | exact HB.out | apply below_alloc | apply pw_below_drewN | apply below_drew1 | refine below_set ?_ GE135.out) | exact HB.out)) hb)
                 clear BK135
                 clear HB
                 have BK135 := n0_
                 have HB := n1_
                 clear n0_ n1_
                 (try clear hb)
                 (try clear hb2)
                 (try clear hk)
                 (try clear hi)
                 refine hK.out _ _ ⟨(blk_cell BK135.out 0).trans rfl, (blk_cell BK135.out 1).trans rfl, (blk_cell BK135.out 2).trans rfl, (blk_cell BK135.out 3).trans rfl, (blk_cell BK135.out 4).trans rfl, (blk_cell BK135.out 5).trans rfl, (blk_cell BK135.out 6).trans rfl, (blk_cell BK135.out 7).trans rfl, (blk_cell BK135.out 8).trans rfl, (blk_cell BK135.out 9).trans rfl⟩ (fun hHeld => ?_)
                 clear hK K
                 refine norm_ (a' := ?_) ?_ ?_
                 rotate_left
                 ·show Act.put _ (some 57) _ = _
                  simp only [Act.put, List.setIfInBounds_toArray, List.set_cons_zero, List.set_cons_succ, i64_w, i32_w]
                  rfl
                 refine pure_ (i := 35) (N := some 58) (v := ?_) (a' := ?_) #[true, true, true, true, true, true, true, true, true, true, true, true, true, true, true, true, true, true, true, true, true, true, true, true, true, true, true, true, true, true, true, true, true, true, true, true, true, true, false, false, true, true, false, false] rfl rfl (any_of HT_.out (by kernel_rfl)) (fun _ _ _ h => h) (Or.inl ⟨by rfl, ?_⟩) ?_ ?_
                 rotate_left
                 ·intro w'
                  go_simp
                  first | (with_reducible rfl) | ((repeat (first | rw [if_pos (by simp only [ByteArray.size_extract, ByteArray.size_append, eq_iff_iff, iff_true, iff_false, Nat.not_lt] at *; first | omega | (simp only [ByteArray.size, List.size_toArray, List.length_cons, List.length_nil] at *; omega))] | rw [if_neg (by simp only [ByteArray.size_extract, ByteArray.size_append, eq_iff_iff, iff_true, iff_false, Nat.not_lt] at *; first | omega | (simp only [ByteArray.size, List.size_toArray, List.length_cons, List.length_nil] at *; omega))])); try with_reducible rfl)
                 rotate_left
                 ·simp only [Act.put, List.setIfInBounds_toArray, List.set_cons_zero, List.set_cons_succ, i64_w, i32_w]
                  rfl
                 refine one_ (i := 38) (N := some 61) #[true, true, true, true, true, true, true, true, true, true, true, true, true, true, true, true, true, true, true, true, true, true, true, true, true, true, true, true, true, true, true, true, true, true, true, true, true, true, true, false, true, true, false, false] rfl rfl (one_of HT_.out (by kernel_rfl)) (by decide) (fun K hK => ?_)
                 refine goes_ Try.func21 (by kernel_rfl) rfl #[.int .i64 a0_1, .int .i64 4] (by rfl) rfl rfl (by (try simp only [List.map_toArray, List.map_cons, List.map_nil]); first | done | rfl | (simp only [List.length_drop, List.length_take]; rfl)) ?_
                 with_reducible refine (ip_num.calls kj9 a0_1 4 t148 _ A32.out).mono ?_
                 rintro e w49 ⟨rfl, hb⟩
                 refine ⟨_, rfl, ?_⟩
                 have n0_ := Aside0.mk (blk_below (g := gb135) (by (with_reducible repeat (first | apply blk_drewN | apply blk_drew | apply blk_alloc)); exact BK135.out) hb)
                 have n1_ := Aside0.mk (below_step (by repeat (first | (with_reducible first | exact HB.out | apply below_alloc | apply pw_below_drewN | apply below_drew1 | refine below_set ?_ GE135.out) | exact HB.out)) hb)
                 clear BK135
                 clear HB
                 have BK135 := n0_
                 have HB := n1_
                 clear n0_ n1_
                 (try clear hb)
                 (try clear hb2)
                 (try clear hk)
                 (try clear hi)
                 refine hK.out _ _ ⟨(blk_cell BK135.out 0).trans rfl, (blk_cell BK135.out 1).trans rfl, (blk_cell BK135.out 2).trans rfl, (blk_cell BK135.out 3).trans rfl, (blk_cell BK135.out 4).trans rfl, (blk_cell BK135.out 5).trans rfl, (blk_cell BK135.out 6).trans rfl, (blk_cell BK135.out 7).trans rfl, (blk_cell BK135.out 8).trans rfl, (blk_cell BK135.out 9).trans rfl⟩ (fun hHeld => ?_)
                 clear hK K
                 refine norm_ (a' := ?_) ?_ ?_
                 rotate_left
                 ·show Act.put _ (some 61) _ = _
                  simp only [Act.put, List.setIfInBounds_toArray, List.set_cons_zero, List.set_cons_succ, i64_w, i32_w]
                  rfl
                 refine pure_ (i := 39) (N := some 62) (v := ?_) (a' := ?_) #[true, true, true, true, true, true, true, true, true, true, true, true, true, true, true, true, true, true, true, true, true, true, true, true, true, true, true, true, true, true, true, true, true, true, true, true, true, true, true, true, true, true, false, false] rfl rfl (any_of HT_.out (by kernel_rfl)) (fun _ _ _ h => h) (Or.inl ⟨by rfl, ?_⟩) ?_ ?_
                 rotate_left
                 ·intro w'
                  go_simp
                  first | (with_reducible rfl) | ((repeat (first | rw [if_pos (by simp only [ByteArray.size_extract, ByteArray.size_append, eq_iff_iff, iff_true, iff_false, Nat.not_lt] at *; first | omega | (simp only [ByteArray.size, List.size_toArray, List.length_cons, List.length_nil] at *; omega))] | rw [if_neg (by simp only [ByteArray.size_extract, ByteArray.size_append, eq_iff_iff, iff_true, iff_false, Nat.not_lt] at *; first | omega | (simp only [ByteArray.size, List.size_toArray, List.length_cons, List.length_nil] at *; omega))])); try with_reducible rfl)
                 rotate_left
                 ·simp only [Act.put, List.setIfInBounds_toArray, List.set_cons_zero, List.set_cons_succ, i64_w, i32_w]
                  rfl
                 refine pure_ (i := 42) (N := some 65) (v := ?_) (a' := ?_) #[true, true, true, true, true, true, true, true, true, true, true, true, true, true, true, true, true, true, true, true, true, true, true, true, true, true, true, true, true, true, true, true, true, true, true, true, true, true, true, true, true, true, true, false] rfl rfl (any_of HT_.out (by kernel_rfl)) (fun _ _ _ h => h) (Or.inl ⟨by rfl, ?_⟩) ?_ ?_
                 rotate_left
                 ·intro w'
                  go_simp
                  first | (with_reducible rfl) | ((repeat (first | rw [if_pos (by simp only [ByteArray.size_extract, ByteArray.size_append, eq_iff_iff, iff_true, iff_false, Nat.not_lt] at *; first | omega | (simp only [ByteArray.size, List.size_toArray, List.length_cons, List.length_nil] at *; omega))] | rw [if_neg (by simp only [ByteArray.size_extract, ByteArray.size_append, eq_iff_iff, iff_true, iff_false, Nat.not_lt] at *; first | omega | (simp only [ByteArray.size, List.size_toArray, List.length_cons, List.length_nil] at *; omega))])); try with_reducible rfl)
                 rotate_left
                 ·simp only [Act.put, List.setIfInBounds_toArray, List.set_cons_zero, List.set_cons_succ, i64_w, i32_w]
                  rfl
                 refine pure_ (i := 43) (N := some 6) (v := ?_) (a' := ?_) #[true, true, true, true, true, true, true, true, true, true, true, true, true, true, true, true, true, true, true, true, true, true, true, true, true, true, true, true, true, true, true, true, true, true, true, true, true, true, true, true, true, true, true, true] rfl rfl (any_of HT_.out (by kernel_rfl)) (fun _ _ _ h => h) (Or.inl ⟨by rfl, ?_⟩) ?_ ?_
                 rotate_left
                 ·intro w'
                  go_simp
                  with_reducible rfl
                 rotate_left
                 ·simp only [Act.put, List.setIfInBounds_toArray, List.set_cons_zero, List.set_cons_succ, i64_w, i32_w]
                  rfl
                 refine done_ (done_of HT_.out (by kernel_rfl)) ?_
                 try go_wp2_with (first | ((with_reducible refine gate_load (t := 23) rfl ?_); refine gate_wanted ?hw (fun hw_ => ?_); (case hw => first | rfl | (go_simp; done)); refine load_big hw_ 23 _ rfl _ rfl 23 _ (0, 0) _ (by (with_reducible repeat (first | apply blk_drewN | apply blk_drew | apply blk_alloc | (apply blk_farA; case hp => assumption) | apply blk_put)); apply Aside0.out; assumption; all_goals (simp only [List.setIfInBounds_toArray, List.set_cons_zero, List.set_cons_succ]; try rfl)) Try.underlying23 rfl (by kernel_rfl) ?_; clear hw_; simp only [Act.put, List.setIfInBounds_toArray, List.set_cons_zero, List.set_cons_succ]) | ((with_reducible refine gate_store (t := 23) rfl ?_); refine store_big rfl 23 _ _ rfl _ _ rfl rfl 23 _ (by (with_reducible repeat (first | apply blk_drewN | apply blk_drew | apply blk_alloc | (apply blk_farA; case hp => assumption) | apply blk_put)); apply Aside0.out; assumption; all_goals (simp only [List.setIfInBounds_toArray, List.set_cons_zero, List.set_cons_succ]; try rfl)) (by kernel_rfl) (by rfl) (by rfl) _ (by simp only [World.setCells, Nat.reduceAdd]; rfl) ?_; simp only [Act.put, List.setIfInBounds_toArray, List.set_cons_zero, List.set_cons_succ]) | ((with_reducible refine gate_callee (f := 23) rfl ?_); refine goesL_ (some 68) rfl rfl Try.func23 (by kernel_rfl) rfl #[.string ((((((((((t138 ++ t139) ++ t141) ++ t142) ++ t143) ++ t144) ++ t145) ++ t146) ++ t147) ++ t148) ++ a0_8), .int .i64 10] rfl (by (try simp only [List.map_toArray, List.map_cons, List.map_nil]); first | done | rfl | (simp only [List.length_drop, List.length_take]; rfl)) ?_; (with_reducible refine (sum_Seal.calls kj9 ((((((((((t138 ++ t139) ++ t141) ++ t142) ++ t143) ++ t144) ++ t145) ++ t146) ++ t147) ++ t148) ++ a0_8) 10 t149 t150 _ A35.out).mono ?_); rintro e w50 ⟨rfl, hb⟩; refine ⟨_, rfl, ?_⟩; have n0_ := Aside0.mk (blk_below (g := gb135) (by (with_reducible repeat (first | apply blk_drewN | apply blk_drew | apply blk_alloc)); exact BK135.out) hb); have n1_ := Aside0.mk (below_step (by repeat (first | (with_reducible first | exact HB.out | apply below_alloc | apply pw_below_drewN | apply below_drew1 | refine below_set ?_ GE135.out) | exact HB.out)) hb); clear BK135; clear HB; have BK135 := n0_; have HB := n1_; clear n0_ n1_; (try clear hb); (try clear hb2); (try clear hk); (try clear hi); obtain ⟨hcz51_0, hcz51_1, hcz51_2, hcz51_3, hcz51_4, hcz51_5, hcz51_6, hcz51_7, hcz51_8, hcz51_9⟩ := blk_cells10 BK135.out; obtain ⟨hfz51_0, hfz51_1, hfz51_2, hfz51_3, hfz51_4, hfz51_5, hfz51_6, hfz51_7, hfz51_8, hfz51_9⟩ := blk_frozens10 BK135.out))
                 go_ret2
                 exact ⟨by first | rfl | (simp [errW_none, errW_some] <;> rfl) | (simp [*, errW_none, errW_some] <;> rfl), by repeat (first | (with_reducible first | exact HB.out | apply below_alloc | apply pw_below_drewN | apply below_drew1 | refine below_set ?_ GE135.out) | exact HB.out)⟩
                ·rw [if_neg c36] at H
                 exact absurd H (by simp)
               ·rw [if_neg c34] at H
                exact absurd H (by simp)
              ·rw [if_neg c33] at H
               exact absurd H (by simp)
             ·rw [if_neg c31] at H
              exact absurd H (by simp)
            ·rw [if_neg c29] at H
             exact absurd H (by simp)
           ·rw [if_neg c27] at H
            exact absurd H (by simp)
          ·rw [if_neg c25] at H
           exact absurd H (by simp)
         ·rw [if_neg c23] at H
          exact absurd H (by simp)
        ·rw [if_neg c21] at H
         exact absurd H (by simp)
       ·rw [if_neg c19] at H
        exact absurd H (by simp)
      ·rw [if_neg c16] at H
       exact absurd H (by simp)
 ·rw [if_neg c3] at H
  have c3b0 : (t136 == 0) = false := beq_eq_false_iff_ne.mpr c3
  have c3b1 : (t136 != 0) = true := bne_iff_ne.mpr c3
  simp only [Option.some.injEq, Prod.mk.injEq] at H
  obtain ⟨rfl, rfl⟩ := H
  go_enter Try.func8, Try.ntmps8
  go_wp2_with (first | ((with_reducible refine gate_load (t := 23) rfl ?_); refine gate_wanted ?hw (fun hw_ => ?_); (case hw => first | rfl | (go_simp; done)); refine load_big hw_ 23 _ rfl _ rfl 23 _ (0, 0) _ (by (with_reducible repeat (first | apply blk_drewN | apply blk_drew | apply blk_alloc | (apply blk_farA; case hp => assumption) | apply blk_put)); apply Aside0.out; assumption; all_goals (simp only [List.setIfInBounds_toArray, List.set_cons_zero, List.set_cons_succ]; try rfl)) Try.underlying23 rfl (by kernel_rfl) ?_; clear hw_; simp only [Act.put, List.setIfInBounds_toArray, List.set_cons_zero, List.set_cons_succ]) | ((with_reducible refine gate_store (t := 23) rfl ?_); refine store_big rfl 23 _ _ rfl _ _ rfl rfl 23 _ (by (with_reducible repeat (first | apply blk_drewN | apply blk_drew | apply blk_alloc | (apply blk_farA; case hp => assumption) | apply blk_put)); apply Aside0.out; assumption; all_goals (simp only [List.setIfInBounds_toArray, List.set_cons_zero, List.set_cons_succ]; try rfl)) (by kernel_rfl) (by rfl) (by rfl) _ (by simp only [World.setCells, Nat.reduceAdd]; rfl) ?_; simp only [Act.put, List.setIfInBounds_toArray, List.set_cons_zero, List.set_cons_succ]) | ((with_reducible refine gate_dst (N := 1) rfl ?_); refine box_event ?hg (N := 1) ?hd (cs := #[.int .i64 a0_0, .int .i64 a0_1, .int .i64 a0_2, .int .i64 a0_3, .int .i64 a0_4, .int .i64 a0_5, .bool a0_6, .bool a0_7, .string a0_8, .string a0_9]) (t := 23) ?hr ?_; (case hd => rfl); (case hg => rfl); (case hr => first | (go_simp; done) | (go_simp; rfl)); intro gb135 hg w52 hbox hb; have n0_ := Aside0.mk (below_step (by repeat (first | (with_reducible first | exact HB.out | apply below_alloc | apply pw_below_drewN | apply below_drew1) | exact HB.out)) hb); have n1_ := Aside0.mk (hbox); have n2_ := Aside0.mk ((by rw [hg]; exact (below_size (by repeat (first | (with_reducible first | exact HB.out | apply below_alloc | apply pw_below_drewN | apply below_drew1) | exact HB.out))) : w.heap.size ≤ gb135)); have n3_ := Aside0.mk ((by rw [hg]; exact (below_size (by repeat (first | (with_reducible first | exact HB.out | apply below_alloc | apply pw_below_drewN | apply below_drew1) | exact HB.out))) : w.heap.size ≤ gb135)); clear HB; have HB := n0_; have BK135 := n1_; have GW135 := n2_; have GE135 := n3_; clear n0_ n1_ n2_ n3_; clear hb hbox hg; obtain ⟨hcz53_0, hcz53_1, hcz53_2, hcz53_3, hcz53_4, hcz53_5, hcz53_6, hcz53_7, hcz53_8, hcz53_9⟩ := blk_cells10 BK135.out; obtain ⟨hfz53_0, hfz53_1, hfz53_2, hfz53_3, hfz53_4, hfz53_5, hfz53_6, hfz53_7, hfz53_8, hfz53_9⟩ := blk_frozens10 BK135.out) | ((with_reducible refine gate_callee (f := 12) rfl ?_); refine goesL_ (some 9) rfl rfl Try.func12 (by kernel_rfl) rfl #[.agg #[.int .i64 a0_0, .int .i64 a0_1, .int .i64 a0_2, .int .i64 a0_3, .int .i64 a0_4, .int .i64 a0_5, .bool a0_6, .bool a0_7, .string a0_8, .string a0_9]] rfl (by (try simp only [List.map_toArray, List.map_cons, List.map_nil]); first | done | rfl | (simp only [List.length_drop, List.length_take]; rfl)) ?_; (with_reducible refine (ip_Check.calls k a0_0 a0_1 a0_2 a0_3 a0_4 a0_5 a0_6 a0_7 a0_8 a0_9 t136 _ A2.out).mono ?_); rintro e w54 ⟨rfl, hb⟩; refine ⟨_, rfl, ?_⟩; have n0_ := Aside0.mk (blk_below (g := gb135) (by (with_reducible repeat (first | apply blk_drewN | apply blk_drew | apply blk_alloc)); exact BK135.out) hb); have n1_ := Aside0.mk (below_step (by repeat (first | (with_reducible first | exact HB.out | apply below_alloc | apply pw_below_drewN | apply below_drew1 | refine below_set ?_ GE135.out) | exact HB.out)) hb); clear BK135; clear HB; have BK135 := n0_; have HB := n1_; clear n0_ n1_; (try clear hb); (try clear hb2); (try clear hk); (try clear hi)))
  go_ret2
  exact ⟨by first | rfl | (simp [errW_none, errW_some] <;> rfl) | (simp [*, errW_none, errW_some] <;> rfl), by repeat (first | (with_reducible first | exact HB.out | apply below_alloc | apply pw_below_drewN | apply below_drew1 | refine below_set ?_ GE135.out) | exact HB.out)⟩

end Go.Proofs.Ytnggabbakhakaaa.PIpWhole
