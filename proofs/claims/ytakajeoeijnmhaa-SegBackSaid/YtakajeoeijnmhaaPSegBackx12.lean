-- Laid by this claim's own program over the print's words.
import Derived.Test.YtakajeoeijnmhaaPSegBackx0
import Derived.Test.YtakajeoeijnmhaaPSegBackx9
import Derived.Test.YtakajeoeijnmhaaPSegBackx11
namespace Go.Proofs.Ytakajeoeijnmhaa.PSegBack
open Go.RowKit Go.Proofs.YtakajeoeijnmhaaW.PrintWords Go.Proofs.YtakajeoeijnmhaaW.PrintLast Go.Proofs.YtakajeoeijnmhaaW.PrintMore
attribute [local go_sem] max2_int min2_int max_two min_two max_three min_three max_four min_four max_five min_five extract_cut tmod_nat_lit   -- for this text's walks alone
set_option linter.unusedVariables false
set_option linter.unusedSimpArgs false

/-! ### seg_Encode: function 17 -/
def seg_Encode.f (k : Nat) (a0 : Int) (a1 : Int) (a2_0 : Int) (a2_1 : Int) (a2_2 : Int) (a2_3 : Int) (a2_4 : Int) (a2_5 : Int) (a2_6 : Int) (a2_7 : Int) (a2_8 : Int) (a2_9 : Int) (a2_10 : Int) (a2_11 : Bool) (a2_12 : Bool) (a2_13 : Bool) (l2_14 : List (S73)) (a2_15 : ByteArray) : Option (ByteArray × Int) := (seg_addresses.f a0 a1).bind fun t209 => (if t209 = 0 then ((seg_Check.f k a2_0 a2_1 a2_2 a2_3 a2_4 a2_5 a2_6 a2_7 a2_8 a2_9 a2_10 a2_11 a2_12 a2_13 l2_14 a2_15).bind fun t210 => (if t210 = 0 then ((opts_Encode.f k a2_7 a2_8 a2_9 a2_10 a2_11 a2_12 a2_13 l2_14).bind fun bt211 => ((seg_num.f k a2_0 2).bind fun t213 => ((seg_num.f k a2_1 2).bind fun t214 => (if t213.size + t214.size ≤ 9223372036854775807 then ((seg_num.f k a2_2 4).bind fun t215 => (if (t213 ++ t214).size + t215.size ≤ 9223372036854775807 then ((seg_num.f k a2_3 4).bind fun t216 => (if ((t213 ++ t214) ++ t215).size + t216.size ≤ 9223372036854775807 then ((seg_num.f k (wrap64 ((wrap64 (Int.tdiv (wrap64 (20 + (bt211.1.size : Int))) 4)) * 16)) 1).bind fun t217 => (if (((t213 ++ t214) ++ t215) ++ t216).size + t217.size ≤ 9223372036854775807 then ((seg_num.f k a2_4 1).bind fun t218 => (if ((((t213 ++ t214) ++ t215) ++ t216) ++ t217).size + t218.size ≤ 9223372036854775807 then ((seg_num.f k a2_5 2).bind fun t219 => (if (((((t213 ++ t214) ++ t215) ++ t216) ++ t217) ++ t218).size + t219.size ≤ 9223372036854775807 then ((seg_num.f k a2_6 2).bind fun t220 => (if t220.size + bt211.1.size ≤ 9223372036854775807 then (if (t220 ++ bt211.1).size + a2_15.size ≤ 9223372036854775807 then ((sum_Pseudo.f k a0 a1 6 (wrap64 ((wrap64 ((((((((t213 ++ t214) ++ t215) ++ t216) ++ t217) ++ t218) ++ t219).size : Int) + 2)) + (((t220 ++ bt211.1) ++ a2_15).size : Int)))).bind fun bt221 => ((seg_num.f k 0 2).bind fun t223 => ((sum_Of.f k (([bt221.1, (((((t213 ++ t214) ++ t215) ++ t216) ++ t217) ++ t218) ++ t219, t223, (t220 ++ bt211.1) ++ a2_15] : List ByteArray))).bind fun bt227 => ((seg_num.f k bt227.1 2).bind fun t229 => (if ((((((t213 ++ t214) ++ t215) ++ t216) ++ t217) ++ t218) ++ t219).size + t229.size ≤ 9223372036854775807 then (if (((((((t213 ++ t214) ++ t215) ++ t216) ++ t217) ++ t218) ++ t219) ++ t229).size + ((t220 ++ bt211.1) ++ a2_15).size ≤ 9223372036854775807 then (some ((((((((t213 ++ t214) ++ t215) ++ t216) ++ t217) ++ t218) ++ t219) ++ t229) ++ ((t220 ++ bt211.1) ++ a2_15), bt227.2)) else (none)) else (none)))))) else (none)) else (none))) else (none))) else (none))) else (none))) else (none))) else (none))) else (none))))) else (some ((⟨#[]⟩ : ByteArray), t210)))) else (some ((⟨#[]⟩ : ByteArray), t209)))
theorem seg_Encode.mono : ∀ a0 a1 a2 a3 a4 a5 a6 a7 a8 a9 a10 a11 a12 a13 a14 a15 a16 a17 k, LeO (seg_Encode.f k a0 a1 a2 a3 a4 a5 a6 a7 a8 a9 a10 a11 a12 a13 a14 a15 a16 a17) (seg_Encode.f (k + 1) a0 a1 a2 a3 a4 a5 a6 a7 a8 a9 a10 a11 a12 a13 a14 a15 a16 a17) := by
 intro a0 a1 a2 a3 a4 a5 a6 a7 a8 a9 a10 a11 a12 a13 a14 a15 a16 a17 k
 unfold seg_Encode.f
 repeat' first
   | (with_reducible exact opts_Encode.mono _ _ _ _ _ _ _ _ _)
   | (with_reducible exact seg_Check.mono _ _ _ _ _ _ _ _ _ _ _ _ _ _ _ _ _)
   | (with_reducible exact seg_num.mono _ _ _)
   | (with_reducible exact sum_Of.mono _ _)
   | (with_reducible exact sum_Pseudo.mono _ _ _ _ _)
   | (with_reducible exact LeO.refl _)
   | (with_reducible exact LeO.none _)
   | (with_reducible refine LeO.ite ?_ ?_)
   | (with_reducible refine LeO.bind ?_ (fun _ => ?_))
   | exact opts_Encode.mono _ _ _ _ _ _ _ _ _
   | exact seg_Check.mono _ _ _ _ _ _ _ _ _ _ _ _ _ _ _ _ _
   | exact seg_num.mono _ _ _
   | exact sum_Of.mono _ _
   | exact sum_Pseudo.mono _ _ _ _ _
   | exact LeO.none _
   | refine LeO.ite ?_ ?_
   | refine LeO.bind ?_ (fun _ => ?_)
def seg_Encode.T8 : Bool × List (List Nat × List Nat) := (true, [([], []), ([0], [0]), ([1], [1]), ([], []), ([3], [3]), ([4, 2], [4]), ([2, 5], [2, 5]), ([], []), ([7], [7]), ([8, 5], [8]), ([6, 9], [6, 9]), ([], []), ([11], [11]), ([12, 9], [12]), ([10, 13], [10, 13]), ([], []), ([15], [15]), ([16], [16]), ([17], [17]), ([18], [18]), ([19, 13], [19]), ([14, 20], [14, 20]), ([], []), ([22], [22]), ([23, 20], [23]), ([21, 24], [21, 24]), ([], []), ([26], [26]), ([27, 24], [27]), ([25, 28], [25, 28]), ([29, 28, 0, 1, 2, 3, 4, 5, 6, 7, 8, 9, 10, 11, 12, 13, 14, 15, 16, 17, 18, 19, 20, 21, 22, 23, 24, 25, 26, 27, 28, 29], [29])])
def seg_Encode.B8 : List Nat := [0, 1, 3, 0, 8, 31, 63, 0, 128, 447, 1023, 0, 2048, 7103, 16383, 0, 32768, 98304, 229376, 491520, 1031103, 2097151, 0, 4194304, 14662591, 33554431, 0, 67108864, 232766399, 536870911, 1073741823]
theorem seg_Encode.tab8 : rtab .any (opsOf Try.f17 8) = seg_Encode.T8 := by kernel_rfl
theorem seg_Encode.bits8 : waitsOk seg_Encode.T8.2 seg_Encode.B8 = true := by kernel_rfl
def seg_Encode.T9 : Bool × List (List Nat × List Nat) := (true, [([], []), ([0], [0]), ([1], [1]), ([], []), ([2, 3], [2, 3]), ([], []), ([5], [5]), ([4, 6], [4, 6]), ([7, 2, 0, 1, 2, 3, 4, 5, 6, 7], [7])])
def seg_Encode.B9 : List Nat := [0, 1, 3, 0, 15, 0, 32, 127, 255]
theorem seg_Encode.tab9 : rtab .any (opsOf Try.f17 9) = seg_Encode.T9 := by kernel_rfl
theorem seg_Encode.bits9 : waitsOk seg_Encode.T9.2 seg_Encode.B9 = true := by kernel_rfl
set_option maxHeartbeats 8000000 in
set_option maxRecDepth 100000 in
theorem seg_Encode.calls (k : Nat) (a0 : Int) (a1 : Int) (a2_0 : Int) (a2_1 : Int) (a2_2 : Int) (a2_3 : Int) (a2_4 : Int) (a2_5 : Int) (a2_6 : Int) (a2_7 : Int) (a2_8 : Int) (a2_9 : Int) (a2_10 : Int) (a2_11 : Bool) (a2_12 : Bool) (a2_13 : Bool) (A2_14 : Option Addr) (c2_14 : Nat) (l2_14 : List (S73)) (a2_15 : ByteArray) (r1 : ByteArray) (r2 : Int) (w : World) (hr2_14 : Kd.C k73 w A2_14 l2_14.length l2_14) (hc2_14 : l2_14.length ≤ c2_14) (h : seg_Encode.f k a0 a1 a2_0 a2_1 a2_2 a2_3 a2_4 a2_5 a2_6 a2_7 a2_8 a2_9 a2_10 a2_11 a2_12 a2_13 l2_14 a2_15 = some (r1, r2)) :
  Calls Try.prog 17 #[.int .i64 a0, .int .i64 a1, .agg #[.int .i64 a2_0, .int .i64 a2_1, .int .i64 a2_2, .int .i64 a2_3, .int .i64 a2_4, .int .i64 a2_5, .int .i64 a2_6, .int .i64 a2_7, .int .i64 a2_8, .int .i64 a2_9, .int .i64 a2_10, .bool a2_11, .bool a2_12, .bool a2_13, .slice A2_14 l2_14.length c2_14, .string a2_15]] w fun e w' => e = .returned (.tuple #[.string r1, .int .i64 r2]) ∧ Below w.heap.size w w' := by
 have hu26 := Try.underlying26
 have hu24 := Try.underlying24
 have HR2_14 := Aside0.mk hr2_14
 have HC2_14 := Aside0.mk hc2_14
 clear hr2_14 hc2_14
 have HB := Aside0.mk (Below.refl w.heap.size w)
 have H : ((seg_addresses.f a0 a1).bind fun t209 => (if t209 = 0 then ((seg_Check.f k a2_0 a2_1 a2_2 a2_3 a2_4 a2_5 a2_6 a2_7 a2_8 a2_9 a2_10 a2_11 a2_12 a2_13 l2_14 a2_15).bind fun t210 => (if t210 = 0 then ((opts_Encode.f k a2_7 a2_8 a2_9 a2_10 a2_11 a2_12 a2_13 l2_14).bind fun bt211 => ((seg_num.f k a2_0 2).bind fun t213 => ((seg_num.f k a2_1 2).bind fun t214 => (if t213.size + t214.size ≤ 9223372036854775807 then ((seg_num.f k a2_2 4).bind fun t215 => (if (t213 ++ t214).size + t215.size ≤ 9223372036854775807 then ((seg_num.f k a2_3 4).bind fun t216 => (if ((t213 ++ t214) ++ t215).size + t216.size ≤ 9223372036854775807 then ((seg_num.f k (wrap64 ((wrap64 (Int.tdiv (wrap64 (20 + (bt211.1.size : Int))) 4)) * 16)) 1).bind fun t217 => (if (((t213 ++ t214) ++ t215) ++ t216).size + t217.size ≤ 9223372036854775807 then ((seg_num.f k a2_4 1).bind fun t218 => (if ((((t213 ++ t214) ++ t215) ++ t216) ++ t217).size + t218.size ≤ 9223372036854775807 then ((seg_num.f k a2_5 2).bind fun t219 => (if (((((t213 ++ t214) ++ t215) ++ t216) ++ t217) ++ t218).size + t219.size ≤ 9223372036854775807 then ((seg_num.f k a2_6 2).bind fun t220 => (if t220.size + bt211.1.size ≤ 9223372036854775807 then (if (t220 ++ bt211.1).size + a2_15.size ≤ 9223372036854775807 then ((sum_Pseudo.f k a0 a1 6 (wrap64 ((wrap64 ((((((((t213 ++ t214) ++ t215) ++ t216) ++ t217) ++ t218) ++ t219).size : Int) + 2)) + (((t220 ++ bt211.1) ++ a2_15).size : Int)))).bind fun bt221 => ((seg_num.f k 0 2).bind fun t223 => ((sum_Of.f k (([bt221.1, (((((t213 ++ t214) ++ t215) ++ t216) ++ t217) ++ t218) ++ t219, t223, (t220 ++ bt211.1) ++ a2_15] : List ByteArray))).bind fun bt227 => ((seg_num.f k bt227.1 2).bind fun t229 => (if ((((((t213 ++ t214) ++ t215) ++ t216) ++ t217) ++ t218) ++ t219).size + t229.size ≤ 9223372036854775807 then (if (((((((t213 ++ t214) ++ t215) ++ t216) ++ t217) ++ t218) ++ t219) ++ t229).size + ((t220 ++ bt211.1) ++ a2_15).size ≤ 9223372036854775807 then (some ((((((((t213 ++ t214) ++ t215) ++ t216) ++ t217) ++ t218) ++ t219) ++ t229) ++ ((t220 ++ bt211.1) ++ a2_15), bt227.2)) else (none)) else (none)))))) else (none)) else (none))) else (none))) else (none))) else (none))) else (none))) else (none))) else (none))))) else (some ((⟨#[]⟩ : ByteArray), t210)))) else (some ((⟨#[]⟩ : ByteArray), t209)))) = some (r1, r2) := h
 clear h
 replace H := Option.bind_eq_some_iff.mp H
 obtain ⟨t209, A40, H⟩ := H
 replace H : (if t209 = 0 then ((seg_Check.f k a2_0 a2_1 a2_2 a2_3 a2_4 a2_5 a2_6 a2_7 a2_8 a2_9 a2_10 a2_11 a2_12 a2_13 l2_14 a2_15).bind fun t210 => (if t210 = 0 then ((opts_Encode.f k a2_7 a2_8 a2_9 a2_10 a2_11 a2_12 a2_13 l2_14).bind fun bt211 => ((seg_num.f k a2_0 2).bind fun t213 => ((seg_num.f k a2_1 2).bind fun t214 => (if t213.size + t214.size ≤ 9223372036854775807 then ((seg_num.f k a2_2 4).bind fun t215 => (if (t213 ++ t214).size + t215.size ≤ 9223372036854775807 then ((seg_num.f k a2_3 4).bind fun t216 => (if ((t213 ++ t214) ++ t215).size + t216.size ≤ 9223372036854775807 then ((seg_num.f k (wrap64 ((wrap64 (Int.tdiv (wrap64 (20 + (bt211.1.size : Int))) 4)) * 16)) 1).bind fun t217 => (if (((t213 ++ t214) ++ t215) ++ t216).size + t217.size ≤ 9223372036854775807 then ((seg_num.f k a2_4 1).bind fun t218 => (if ((((t213 ++ t214) ++ t215) ++ t216) ++ t217).size + t218.size ≤ 9223372036854775807 then ((seg_num.f k a2_5 2).bind fun t219 => (if (((((t213 ++ t214) ++ t215) ++ t216) ++ t217) ++ t218).size + t219.size ≤ 9223372036854775807 then ((seg_num.f k a2_6 2).bind fun t220 => (if t220.size + bt211.1.size ≤ 9223372036854775807 then (if (t220 ++ bt211.1).size + a2_15.size ≤ 9223372036854775807 then ((sum_Pseudo.f k a0 a1 6 (wrap64 ((wrap64 ((((((((t213 ++ t214) ++ t215) ++ t216) ++ t217) ++ t218) ++ t219).size : Int) + 2)) + (((t220 ++ bt211.1) ++ a2_15).size : Int)))).bind fun bt221 => ((seg_num.f k 0 2).bind fun t223 => ((sum_Of.f k (([bt221.1, (((((t213 ++ t214) ++ t215) ++ t216) ++ t217) ++ t218) ++ t219, t223, (t220 ++ bt211.1) ++ a2_15] : List ByteArray))).bind fun bt227 => ((seg_num.f k bt227.1 2).bind fun t229 => (if ((((((t213 ++ t214) ++ t215) ++ t216) ++ t217) ++ t218) ++ t219).size + t229.size ≤ 9223372036854775807 then (if (((((((t213 ++ t214) ++ t215) ++ t216) ++ t217) ++ t218) ++ t219) ++ t229).size + ((t220 ++ bt211.1) ++ a2_15).size ≤ 9223372036854775807 then (some ((((((((t213 ++ t214) ++ t215) ++ t216) ++ t217) ++ t218) ++ t219) ++ t229) ++ ((t220 ++ bt211.1) ++ a2_15), bt227.2)) else (none)) else (none)))))) else (none)) else (none))) else (none))) else (none))) else (none))) else (none))) else (none))) else (none))))) else (some ((⟨#[]⟩ : ByteArray), t210)))) else (some ((⟨#[]⟩ : ByteArray), t209))) = some (r1, r2) := H
 have A4 := Aside0.mk A40
 clear A40
 by_cases c5 : t209 = 0
 ·rw [if_pos c5] at H
  have c5b0 : (t209 == 0) = true := beq_iff_eq.mpr c5
  have c5b1 : (t209 != 0) = false := bne_eq_false_iff_eq.mpr c5
  clear c5
  replace H := Option.bind_eq_some_iff.mp H
  obtain ⟨t210, A60, H⟩ := H
  replace H : (if t210 = 0 then ((opts_Encode.f k a2_7 a2_8 a2_9 a2_10 a2_11 a2_12 a2_13 l2_14).bind fun bt211 => ((seg_num.f k a2_0 2).bind fun t213 => ((seg_num.f k a2_1 2).bind fun t214 => (if t213.size + t214.size ≤ 9223372036854775807 then ((seg_num.f k a2_2 4).bind fun t215 => (if (t213 ++ t214).size + t215.size ≤ 9223372036854775807 then ((seg_num.f k a2_3 4).bind fun t216 => (if ((t213 ++ t214) ++ t215).size + t216.size ≤ 9223372036854775807 then ((seg_num.f k (wrap64 ((wrap64 (Int.tdiv (wrap64 (20 + (bt211.1.size : Int))) 4)) * 16)) 1).bind fun t217 => (if (((t213 ++ t214) ++ t215) ++ t216).size + t217.size ≤ 9223372036854775807 then ((seg_num.f k a2_4 1).bind fun t218 => (if ((((t213 ++ t214) ++ t215) ++ t216) ++ t217).size + t218.size ≤ 9223372036854775807 then ((seg_num.f k a2_5 2).bind fun t219 => (if (((((t213 ++ t214) ++ t215) ++ t216) ++ t217) ++ t218).size + t219.size ≤ 9223372036854775807 then ((seg_num.f k a2_6 2).bind fun t220 => (if t220.size + bt211.1.size ≤ 9223372036854775807 then (if (t220 ++ bt211.1).size + a2_15.size ≤ 9223372036854775807 then ((sum_Pseudo.f k a0 a1 6 (wrap64 ((wrap64 ((((((((t213 ++ t214) ++ t215) ++ t216) ++ t217) ++ t218) ++ t219).size : Int) + 2)) + (((t220 ++ bt211.1) ++ a2_15).size : Int)))).bind fun bt221 => ((seg_num.f k 0 2).bind fun t223 => ((sum_Of.f k (([bt221.1, (((((t213 ++ t214) ++ t215) ++ t216) ++ t217) ++ t218) ++ t219, t223, (t220 ++ bt211.1) ++ a2_15] : List ByteArray))).bind fun bt227 => ((seg_num.f k bt227.1 2).bind fun t229 => (if ((((((t213 ++ t214) ++ t215) ++ t216) ++ t217) ++ t218) ++ t219).size + t229.size ≤ 9223372036854775807 then (if (((((((t213 ++ t214) ++ t215) ++ t216) ++ t217) ++ t218) ++ t219) ++ t229).size + ((t220 ++ bt211.1) ++ a2_15).size ≤ 9223372036854775807 then (some ((((((((t213 ++ t214) ++ t215) ++ t216) ++ t217) ++ t218) ++ t219) ++ t229) ++ ((t220 ++ bt211.1) ++ a2_15), bt227.2)) else (none)) else (none)))))) else (none)) else (none))) else (none))) else (none))) else (none))) else (none))) else (none))) else (none))))) else (some ((⟨#[]⟩ : ByteArray), t210))) = some (r1, r2) := H
  have A6 := Aside0.mk A60
  clear A60
  by_cases c7 : t210 = 0
  ·rw [if_pos c7] at H
   have c7b0 : (t210 == 0) = true := beq_iff_eq.mpr c7
   have c7b1 : (t210 != 0) = false := bne_eq_false_iff_eq.mpr c7
   clear c7
   replace H := Option.bind_eq_some_iff.mp H
   obtain ⟨⟨t211, t212⟩, A80, H⟩ := H
   replace H : ((seg_num.f k a2_0 2).bind fun t213 => ((seg_num.f k a2_1 2).bind fun t214 => (if t213.size + t214.size ≤ 9223372036854775807 then ((seg_num.f k a2_2 4).bind fun t215 => (if (t213 ++ t214).size + t215.size ≤ 9223372036854775807 then ((seg_num.f k a2_3 4).bind fun t216 => (if ((t213 ++ t214) ++ t215).size + t216.size ≤ 9223372036854775807 then ((seg_num.f k (wrap64 ((wrap64 (Int.tdiv (wrap64 (20 + (t211.size : Int))) 4)) * 16)) 1).bind fun t217 => (if (((t213 ++ t214) ++ t215) ++ t216).size + t217.size ≤ 9223372036854775807 then ((seg_num.f k a2_4 1).bind fun t218 => (if ((((t213 ++ t214) ++ t215) ++ t216) ++ t217).size + t218.size ≤ 9223372036854775807 then ((seg_num.f k a2_5 2).bind fun t219 => (if (((((t213 ++ t214) ++ t215) ++ t216) ++ t217) ++ t218).size + t219.size ≤ 9223372036854775807 then ((seg_num.f k a2_6 2).bind fun t220 => (if t220.size + t211.size ≤ 9223372036854775807 then (if (t220 ++ t211).size + a2_15.size ≤ 9223372036854775807 then ((sum_Pseudo.f k a0 a1 6 (wrap64 ((wrap64 ((((((((t213 ++ t214) ++ t215) ++ t216) ++ t217) ++ t218) ++ t219).size : Int) + 2)) + (((t220 ++ t211) ++ a2_15).size : Int)))).bind fun bt221 => ((seg_num.f k 0 2).bind fun t223 => ((sum_Of.f k (([bt221.1, (((((t213 ++ t214) ++ t215) ++ t216) ++ t217) ++ t218) ++ t219, t223, (t220 ++ t211) ++ a2_15] : List ByteArray))).bind fun bt227 => ((seg_num.f k bt227.1 2).bind fun t229 => (if ((((((t213 ++ t214) ++ t215) ++ t216) ++ t217) ++ t218) ++ t219).size + t229.size ≤ 9223372036854775807 then (if (((((((t213 ++ t214) ++ t215) ++ t216) ++ t217) ++ t218) ++ t219) ++ t229).size + ((t220 ++ t211) ++ a2_15).size ≤ 9223372036854775807 then (some ((((((((t213 ++ t214) ++ t215) ++ t216) ++ t217) ++ t218) ++ t219) ++ t229) ++ ((t220 ++ t211) ++ a2_15), bt227.2)) else (none)) else (none)))))) else (none)) else (none))) else (none))) else (none))) else (none))) else (none))) else (none))) else (none)))) = some (r1, r2) := H
   have A8 := Aside0.mk A80
   clear A80
   replace H := Option.bind_eq_some_iff.mp H
   obtain ⟨t213, A90, H⟩ := H
   replace H : ((seg_num.f k a2_1 2).bind fun t214 => (if t213.size + t214.size ≤ 9223372036854775807 then ((seg_num.f k a2_2 4).bind fun t215 => (if (t213 ++ t214).size + t215.size ≤ 9223372036854775807 then ((seg_num.f k a2_3 4).bind fun t216 => (if ((t213 ++ t214) ++ t215).size + t216.size ≤ 9223372036854775807 then ((seg_num.f k (wrap64 ((wrap64 (Int.tdiv (wrap64 (20 + (t211.size : Int))) 4)) * 16)) 1).bind fun t217 => (if (((t213 ++ t214) ++ t215) ++ t216).size + t217.size ≤ 9223372036854775807 then ((seg_num.f k a2_4 1).bind fun t218 => (if ((((t213 ++ t214) ++ t215) ++ t216) ++ t217).size + t218.size ≤ 9223372036854775807 then ((seg_num.f k a2_5 2).bind fun t219 => (if (((((t213 ++ t214) ++ t215) ++ t216) ++ t217) ++ t218).size + t219.size ≤ 9223372036854775807 then ((seg_num.f k a2_6 2).bind fun t220 => (if t220.size + t211.size ≤ 9223372036854775807 then (if (t220 ++ t211).size + a2_15.size ≤ 9223372036854775807 then ((sum_Pseudo.f k a0 a1 6 (wrap64 ((wrap64 ((((((((t213 ++ t214) ++ t215) ++ t216) ++ t217) ++ t218) ++ t219).size : Int) + 2)) + (((t220 ++ t211) ++ a2_15).size : Int)))).bind fun bt221 => ((seg_num.f k 0 2).bind fun t223 => ((sum_Of.f k (([bt221.1, (((((t213 ++ t214) ++ t215) ++ t216) ++ t217) ++ t218) ++ t219, t223, (t220 ++ t211) ++ a2_15] : List ByteArray))).bind fun bt227 => ((seg_num.f k bt227.1 2).bind fun t229 => (if ((((((t213 ++ t214) ++ t215) ++ t216) ++ t217) ++ t218) ++ t219).size + t229.size ≤ 9223372036854775807 then (if (((((((t213 ++ t214) ++ t215) ++ t216) ++ t217) ++ t218) ++ t219) ++ t229).size + ((t220 ++ t211) ++ a2_15).size ≤ 9223372036854775807 then (some ((((((((t213 ++ t214) ++ t215) ++ t216) ++ t217) ++ t218) ++ t219) ++ t229) ++ ((t220 ++ t211) ++ a2_15), bt227.2)) else (none)) else (none)))))) else (none)) else (none))) else (none))) else (none))) else (none))) else (none))) else (none))) else (none))) = some (r1, r2) := H
   have A9 := Aside0.mk A90
   clear A90
   replace H := Option.bind_eq_some_iff.mp H
   obtain ⟨t214, A100, H⟩ := H
   replace H : (if t213.size + t214.size ≤ 9223372036854775807 then ((seg_num.f k a2_2 4).bind fun t215 => (if (t213 ++ t214).size + t215.size ≤ 9223372036854775807 then ((seg_num.f k a2_3 4).bind fun t216 => (if ((t213 ++ t214) ++ t215).size + t216.size ≤ 9223372036854775807 then ((seg_num.f k (wrap64 ((wrap64 (Int.tdiv (wrap64 (20 + (t211.size : Int))) 4)) * 16)) 1).bind fun t217 => (if (((t213 ++ t214) ++ t215) ++ t216).size + t217.size ≤ 9223372036854775807 then ((seg_num.f k a2_4 1).bind fun t218 => (if ((((t213 ++ t214) ++ t215) ++ t216) ++ t217).size + t218.size ≤ 9223372036854775807 then ((seg_num.f k a2_5 2).bind fun t219 => (if (((((t213 ++ t214) ++ t215) ++ t216) ++ t217) ++ t218).size + t219.size ≤ 9223372036854775807 then ((seg_num.f k a2_6 2).bind fun t220 => (if t220.size + t211.size ≤ 9223372036854775807 then (if (t220 ++ t211).size + a2_15.size ≤ 9223372036854775807 then ((sum_Pseudo.f k a0 a1 6 (wrap64 ((wrap64 ((((((((t213 ++ t214) ++ t215) ++ t216) ++ t217) ++ t218) ++ t219).size : Int) + 2)) + (((t220 ++ t211) ++ a2_15).size : Int)))).bind fun bt221 => ((seg_num.f k 0 2).bind fun t223 => ((sum_Of.f k (([bt221.1, (((((t213 ++ t214) ++ t215) ++ t216) ++ t217) ++ t218) ++ t219, t223, (t220 ++ t211) ++ a2_15] : List ByteArray))).bind fun bt227 => ((seg_num.f k bt227.1 2).bind fun t229 => (if ((((((t213 ++ t214) ++ t215) ++ t216) ++ t217) ++ t218) ++ t219).size + t229.size ≤ 9223372036854775807 then (if (((((((t213 ++ t214) ++ t215) ++ t216) ++ t217) ++ t218) ++ t219) ++ t229).size + ((t220 ++ t211) ++ a2_15).size ≤ 9223372036854775807 then (some ((((((((t213 ++ t214) ++ t215) ++ t216) ++ t217) ++ t218) ++ t219) ++ t229) ++ ((t220 ++ t211) ++ a2_15), bt227.2)) else (none)) else (none)))))) else (none)) else (none))) else (none))) else (none))) else (none))) else (none))) else (none))) else (none)) = some (r1, r2) := H
   have A10 := Aside0.mk A100
   clear A100
   by_cases c11 : t213.size + t214.size ≤ 9223372036854775807
   ·rw [if_pos c11] at H
    have c11b0 := eq_true c11
    have c11b1 : decide (t213.size + t214.size ≤ 9223372036854775807) = true := decide_eq_true c11
    try have c11b2 : (9223372036854775807 < t213.size + t214.size) = False := eq_false (Nat.not_lt.2 c11)
    replace H := Option.bind_eq_some_iff.mp H
    obtain ⟨t215, A120, H⟩ := H
    replace H : (if (t213 ++ t214).size + t215.size ≤ 9223372036854775807 then ((seg_num.f k a2_3 4).bind fun t216 => (if ((t213 ++ t214) ++ t215).size + t216.size ≤ 9223372036854775807 then ((seg_num.f k (wrap64 ((wrap64 (Int.tdiv (wrap64 (20 + (t211.size : Int))) 4)) * 16)) 1).bind fun t217 => (if (((t213 ++ t214) ++ t215) ++ t216).size + t217.size ≤ 9223372036854775807 then ((seg_num.f k a2_4 1).bind fun t218 => (if ((((t213 ++ t214) ++ t215) ++ t216) ++ t217).size + t218.size ≤ 9223372036854775807 then ((seg_num.f k a2_5 2).bind fun t219 => (if (((((t213 ++ t214) ++ t215) ++ t216) ++ t217) ++ t218).size + t219.size ≤ 9223372036854775807 then ((seg_num.f k a2_6 2).bind fun t220 => (if t220.size + t211.size ≤ 9223372036854775807 then (if (t220 ++ t211).size + a2_15.size ≤ 9223372036854775807 then ((sum_Pseudo.f k a0 a1 6 (wrap64 ((wrap64 ((((((((t213 ++ t214) ++ t215) ++ t216) ++ t217) ++ t218) ++ t219).size : Int) + 2)) + (((t220 ++ t211) ++ a2_15).size : Int)))).bind fun bt221 => ((seg_num.f k 0 2).bind fun t223 => ((sum_Of.f k (([bt221.1, (((((t213 ++ t214) ++ t215) ++ t216) ++ t217) ++ t218) ++ t219, t223, (t220 ++ t211) ++ a2_15] : List ByteArray))).bind fun bt227 => ((seg_num.f k bt227.1 2).bind fun t229 => (if ((((((t213 ++ t214) ++ t215) ++ t216) ++ t217) ++ t218) ++ t219).size + t229.size ≤ 9223372036854775807 then (if (((((((t213 ++ t214) ++ t215) ++ t216) ++ t217) ++ t218) ++ t219) ++ t229).size + ((t220 ++ t211) ++ a2_15).size ≤ 9223372036854775807 then (some ((((((((t213 ++ t214) ++ t215) ++ t216) ++ t217) ++ t218) ++ t219) ++ t229) ++ ((t220 ++ t211) ++ a2_15), bt227.2)) else (none)) else (none)))))) else (none)) else (none))) else (none))) else (none))) else (none))) else (none))) else (none)) = some (r1, r2) := H
    have A12 := Aside0.mk A120
    clear A120
    by_cases c13 : (t213 ++ t214).size + t215.size ≤ 9223372036854775807
    ·rw [if_pos c13] at H
     have c13b0 := eq_true c13
     have c13b1 : decide ((t213 ++ t214).size + t215.size ≤ 9223372036854775807) = true := decide_eq_true c13
     try have c13b2 : (9223372036854775807 < (t213 ++ t214).size + t215.size) = False := eq_false (Nat.not_lt.2 c13)
     (try (have c13b3 := c13b2; simp only [ByteArray.size_append] at c13b3))
     replace H := Option.bind_eq_some_iff.mp H
     obtain ⟨t216, A140, H⟩ := H
     replace H : (if ((t213 ++ t214) ++ t215).size + t216.size ≤ 9223372036854775807 then ((seg_num.f k (wrap64 ((wrap64 (Int.tdiv (wrap64 (20 + (t211.size : Int))) 4)) * 16)) 1).bind fun t217 => (if (((t213 ++ t214) ++ t215) ++ t216).size + t217.size ≤ 9223372036854775807 then ((seg_num.f k a2_4 1).bind fun t218 => (if ((((t213 ++ t214) ++ t215) ++ t216) ++ t217).size + t218.size ≤ 9223372036854775807 then ((seg_num.f k a2_5 2).bind fun t219 => (if (((((t213 ++ t214) ++ t215) ++ t216) ++ t217) ++ t218).size + t219.size ≤ 9223372036854775807 then ((seg_num.f k a2_6 2).bind fun t220 => (if t220.size + t211.size ≤ 9223372036854775807 then (if (t220 ++ t211).size + a2_15.size ≤ 9223372036854775807 then ((sum_Pseudo.f k a0 a1 6 (wrap64 ((wrap64 ((((((((t213 ++ t214) ++ t215) ++ t216) ++ t217) ++ t218) ++ t219).size : Int) + 2)) + (((t220 ++ t211) ++ a2_15).size : Int)))).bind fun bt221 => ((seg_num.f k 0 2).bind fun t223 => ((sum_Of.f k (([bt221.1, (((((t213 ++ t214) ++ t215) ++ t216) ++ t217) ++ t218) ++ t219, t223, (t220 ++ t211) ++ a2_15] : List ByteArray))).bind fun bt227 => ((seg_num.f k bt227.1 2).bind fun t229 => (if ((((((t213 ++ t214) ++ t215) ++ t216) ++ t217) ++ t218) ++ t219).size + t229.size ≤ 9223372036854775807 then (if (((((((t213 ++ t214) ++ t215) ++ t216) ++ t217) ++ t218) ++ t219) ++ t229).size + ((t220 ++ t211) ++ a2_15).size ≤ 9223372036854775807 then (some ((((((((t213 ++ t214) ++ t215) ++ t216) ++ t217) ++ t218) ++ t219) ++ t229) ++ ((t220 ++ t211) ++ a2_15), bt227.2)) else (none)) else (none)))))) else (none)) else (none))) else (none))) else (none))) else (none))) else (none)) = some (r1, r2) := H
     have A14 := Aside0.mk A140
     clear A140
     by_cases c15 : ((t213 ++ t214) ++ t215).size + t216.size ≤ 9223372036854775807
     ·rw [if_pos c15] at H
      have c15b0 := eq_true c15
      have c15b1 : decide (((t213 ++ t214) ++ t215).size + t216.size ≤ 9223372036854775807) = true := decide_eq_true c15
      try have c15b2 : (9223372036854775807 < ((t213 ++ t214) ++ t215).size + t216.size) = False := eq_false (Nat.not_lt.2 c15)
      (try (have c15b3 := c15b2; simp only [ByteArray.size_append] at c15b3))
      replace H := Option.bind_eq_some_iff.mp H
      obtain ⟨t217, A160, H⟩ := H
      replace H : (if (((t213 ++ t214) ++ t215) ++ t216).size + t217.size ≤ 9223372036854775807 then ((seg_num.f k a2_4 1).bind fun t218 => (if ((((t213 ++ t214) ++ t215) ++ t216) ++ t217).size + t218.size ≤ 9223372036854775807 then ((seg_num.f k a2_5 2).bind fun t219 => (if (((((t213 ++ t214) ++ t215) ++ t216) ++ t217) ++ t218).size + t219.size ≤ 9223372036854775807 then ((seg_num.f k a2_6 2).bind fun t220 => (if t220.size + t211.size ≤ 9223372036854775807 then (if (t220 ++ t211).size + a2_15.size ≤ 9223372036854775807 then ((sum_Pseudo.f k a0 a1 6 (wrap64 ((wrap64 ((((((((t213 ++ t214) ++ t215) ++ t216) ++ t217) ++ t218) ++ t219).size : Int) + 2)) + (((t220 ++ t211) ++ a2_15).size : Int)))).bind fun bt221 => ((seg_num.f k 0 2).bind fun t223 => ((sum_Of.f k (([bt221.1, (((((t213 ++ t214) ++ t215) ++ t216) ++ t217) ++ t218) ++ t219, t223, (t220 ++ t211) ++ a2_15] : List ByteArray))).bind fun bt227 => ((seg_num.f k bt227.1 2).bind fun t229 => (if ((((((t213 ++ t214) ++ t215) ++ t216) ++ t217) ++ t218) ++ t219).size + t229.size ≤ 9223372036854775807 then (if (((((((t213 ++ t214) ++ t215) ++ t216) ++ t217) ++ t218) ++ t219) ++ t229).size + ((t220 ++ t211) ++ a2_15).size ≤ 9223372036854775807 then (some ((((((((t213 ++ t214) ++ t215) ++ t216) ++ t217) ++ t218) ++ t219) ++ t229) ++ ((t220 ++ t211) ++ a2_15), bt227.2)) else (none)) else (none)))))) else (none)) else (none))) else (none))) else (none))) else (none)) = some (r1, r2) := H
      have A16 := Aside0.mk A160
      clear A160
      by_cases c17 : (((t213 ++ t214) ++ t215) ++ t216).size + t217.size ≤ 9223372036854775807
      ·rw [if_pos c17] at H
       have c17b0 := eq_true c17
       have c17b1 : decide ((((t213 ++ t214) ++ t215) ++ t216).size + t217.size ≤ 9223372036854775807) = true := decide_eq_true c17
       try have c17b2 : (9223372036854775807 < (((t213 ++ t214) ++ t215) ++ t216).size + t217.size) = False := eq_false (Nat.not_lt.2 c17)
       (try (have c17b3 := c17b2; simp only [ByteArray.size_append] at c17b3))
       replace H := Option.bind_eq_some_iff.mp H
       obtain ⟨t218, A180, H⟩ := H
       replace H : (if ((((t213 ++ t214) ++ t215) ++ t216) ++ t217).size + t218.size ≤ 9223372036854775807 then ((seg_num.f k a2_5 2).bind fun t219 => (if (((((t213 ++ t214) ++ t215) ++ t216) ++ t217) ++ t218).size + t219.size ≤ 9223372036854775807 then ((seg_num.f k a2_6 2).bind fun t220 => (if t220.size + t211.size ≤ 9223372036854775807 then (if (t220 ++ t211).size + a2_15.size ≤ 9223372036854775807 then ((sum_Pseudo.f k a0 a1 6 (wrap64 ((wrap64 ((((((((t213 ++ t214) ++ t215) ++ t216) ++ t217) ++ t218) ++ t219).size : Int) + 2)) + (((t220 ++ t211) ++ a2_15).size : Int)))).bind fun bt221 => ((seg_num.f k 0 2).bind fun t223 => ((sum_Of.f k (([bt221.1, (((((t213 ++ t214) ++ t215) ++ t216) ++ t217) ++ t218) ++ t219, t223, (t220 ++ t211) ++ a2_15] : List ByteArray))).bind fun bt227 => ((seg_num.f k bt227.1 2).bind fun t229 => (if ((((((t213 ++ t214) ++ t215) ++ t216) ++ t217) ++ t218) ++ t219).size + t229.size ≤ 9223372036854775807 then (if (((((((t213 ++ t214) ++ t215) ++ t216) ++ t217) ++ t218) ++ t219) ++ t229).size + ((t220 ++ t211) ++ a2_15).size ≤ 9223372036854775807 then (some ((((((((t213 ++ t214) ++ t215) ++ t216) ++ t217) ++ t218) ++ t219) ++ t229) ++ ((t220 ++ t211) ++ a2_15), bt227.2)) else (none)) else (none)))))) else (none)) else (none))) else (none))) else (none)) = some (r1, r2) := H
       have A18 := Aside0.mk A180
       clear A180
       by_cases c19 : ((((t213 ++ t214) ++ t215) ++ t216) ++ t217).size + t218.size ≤ 9223372036854775807
       ·rw [if_pos c19] at H
        have c19b0 := eq_true c19
        have c19b1 : decide (((((t213 ++ t214) ++ t215) ++ t216) ++ t217).size + t218.size ≤ 9223372036854775807) = true := decide_eq_true c19
        try have c19b2 : (9223372036854775807 < ((((t213 ++ t214) ++ t215) ++ t216) ++ t217).size + t218.size) = False := eq_false (Nat.not_lt.2 c19)
        (try (have c19b3 := c19b2; simp only [ByteArray.size_append] at c19b3))
        replace H := Option.bind_eq_some_iff.mp H
        obtain ⟨t219, A200, H⟩ := H
        replace H : (if (((((t213 ++ t214) ++ t215) ++ t216) ++ t217) ++ t218).size + t219.size ≤ 9223372036854775807 then ((seg_num.f k a2_6 2).bind fun t220 => (if t220.size + t211.size ≤ 9223372036854775807 then (if (t220 ++ t211).size + a2_15.size ≤ 9223372036854775807 then ((sum_Pseudo.f k a0 a1 6 (wrap64 ((wrap64 ((((((((t213 ++ t214) ++ t215) ++ t216) ++ t217) ++ t218) ++ t219).size : Int) + 2)) + (((t220 ++ t211) ++ a2_15).size : Int)))).bind fun bt221 => ((seg_num.f k 0 2).bind fun t223 => ((sum_Of.f k (([bt221.1, (((((t213 ++ t214) ++ t215) ++ t216) ++ t217) ++ t218) ++ t219, t223, (t220 ++ t211) ++ a2_15] : List ByteArray))).bind fun bt227 => ((seg_num.f k bt227.1 2).bind fun t229 => (if ((((((t213 ++ t214) ++ t215) ++ t216) ++ t217) ++ t218) ++ t219).size + t229.size ≤ 9223372036854775807 then (if (((((((t213 ++ t214) ++ t215) ++ t216) ++ t217) ++ t218) ++ t219) ++ t229).size + ((t220 ++ t211) ++ a2_15).size ≤ 9223372036854775807 then (some ((((((((t213 ++ t214) ++ t215) ++ t216) ++ t217) ++ t218) ++ t219) ++ t229) ++ ((t220 ++ t211) ++ a2_15), bt227.2)) else (none)) else (none)))))) else (none)) else (none))) else (none)) = some (r1, r2) := H
        have A20 := Aside0.mk A200
        clear A200
        by_cases c21 : (((((t213 ++ t214) ++ t215) ++ t216) ++ t217) ++ t218).size + t219.size ≤ 9223372036854775807
        ·rw [if_pos c21] at H
         have c21b0 := eq_true c21
         have c21b1 : decide ((((((t213 ++ t214) ++ t215) ++ t216) ++ t217) ++ t218).size + t219.size ≤ 9223372036854775807) = true := decide_eq_true c21
         try have c21b2 : (9223372036854775807 < (((((t213 ++ t214) ++ t215) ++ t216) ++ t217) ++ t218).size + t219.size) = False := eq_false (Nat.not_lt.2 c21)
         (try (have c21b3 := c21b2; simp only [ByteArray.size_append] at c21b3))
         replace H := Option.bind_eq_some_iff.mp H
         obtain ⟨t220, A220, H⟩ := H
         replace H : (if t220.size + t211.size ≤ 9223372036854775807 then (if (t220 ++ t211).size + a2_15.size ≤ 9223372036854775807 then ((sum_Pseudo.f k a0 a1 6 (wrap64 ((wrap64 ((((((((t213 ++ t214) ++ t215) ++ t216) ++ t217) ++ t218) ++ t219).size : Int) + 2)) + (((t220 ++ t211) ++ a2_15).size : Int)))).bind fun bt221 => ((seg_num.f k 0 2).bind fun t223 => ((sum_Of.f k (([bt221.1, (((((t213 ++ t214) ++ t215) ++ t216) ++ t217) ++ t218) ++ t219, t223, (t220 ++ t211) ++ a2_15] : List ByteArray))).bind fun bt227 => ((seg_num.f k bt227.1 2).bind fun t229 => (if ((((((t213 ++ t214) ++ t215) ++ t216) ++ t217) ++ t218) ++ t219).size + t229.size ≤ 9223372036854775807 then (if (((((((t213 ++ t214) ++ t215) ++ t216) ++ t217) ++ t218) ++ t219) ++ t229).size + ((t220 ++ t211) ++ a2_15).size ≤ 9223372036854775807 then (some ((((((((t213 ++ t214) ++ t215) ++ t216) ++ t217) ++ t218) ++ t219) ++ t229) ++ ((t220 ++ t211) ++ a2_15), bt227.2)) else (none)) else (none)))))) else (none)) else (none)) = some (r1, r2) := H
         have A22 := Aside0.mk A220
         clear A220
         by_cases c23 : t220.size + t211.size ≤ 9223372036854775807
         ·rw [if_pos c23] at H
          have c23b0 := eq_true c23
          have c23b1 : decide (t220.size + t211.size ≤ 9223372036854775807) = true := decide_eq_true c23
          try have c23b2 : (9223372036854775807 < t220.size + t211.size) = False := eq_false (Nat.not_lt.2 c23)
          by_cases c24 : (t220 ++ t211).size + a2_15.size ≤ 9223372036854775807
          ·rw [if_pos c24] at H
           have c24b0 := eq_true c24
           have c24b1 : decide ((t220 ++ t211).size + a2_15.size ≤ 9223372036854775807) = true := decide_eq_true c24
           try have c24b2 : (9223372036854775807 < (t220 ++ t211).size + a2_15.size) = False := eq_false (Nat.not_lt.2 c24)
           (try (have c24b3 := c24b2; simp only [ByteArray.size_append] at c24b3))
           replace H := Option.bind_eq_some_iff.mp H
           obtain ⟨⟨t221, t222⟩, A250, H⟩ := H
           replace H : ((seg_num.f k 0 2).bind fun t223 => ((sum_Of.f k (([t221, (((((t213 ++ t214) ++ t215) ++ t216) ++ t217) ++ t218) ++ t219, t223, (t220 ++ t211) ++ a2_15] : List ByteArray))).bind fun bt227 => ((seg_num.f k bt227.1 2).bind fun t229 => (if ((((((t213 ++ t214) ++ t215) ++ t216) ++ t217) ++ t218) ++ t219).size + t229.size ≤ 9223372036854775807 then (if (((((((t213 ++ t214) ++ t215) ++ t216) ++ t217) ++ t218) ++ t219) ++ t229).size + ((t220 ++ t211) ++ a2_15).size ≤ 9223372036854775807 then (some ((((((((t213 ++ t214) ++ t215) ++ t216) ++ t217) ++ t218) ++ t219) ++ t229) ++ ((t220 ++ t211) ++ a2_15), bt227.2)) else (none)) else (none))))) = some (r1, r2) := H
           have A25 := Aside0.mk A250
           clear A250
           replace H := Option.bind_eq_some_iff.mp H
           obtain ⟨t223, A260, H⟩ := H
           replace H : ((sum_Of.f k (([t221, (((((t213 ++ t214) ++ t215) ++ t216) ++ t217) ++ t218) ++ t219, t223, (t220 ++ t211) ++ a2_15] : List ByteArray))).bind fun bt227 => ((seg_num.f k bt227.1 2).bind fun t229 => (if ((((((t213 ++ t214) ++ t215) ++ t216) ++ t217) ++ t218) ++ t219).size + t229.size ≤ 9223372036854775807 then (if (((((((t213 ++ t214) ++ t215) ++ t216) ++ t217) ++ t218) ++ t219) ++ t229).size + ((t220 ++ t211) ++ a2_15).size ≤ 9223372036854775807 then (some ((((((((t213 ++ t214) ++ t215) ++ t216) ++ t217) ++ t218) ++ t219) ++ t229) ++ ((t220 ++ t211) ++ a2_15), bt227.2)) else (none)) else (none)))) = some (r1, r2) := H
           have A26 := Aside0.mk A260
           clear A260
           obtain ⟨y224, hy224⟩ : ∃ y_ : List ByteArray, y_ = (([t221, (((((t213 ++ t214) ++ t215) ++ t216) ++ t217) ++ t218) ++ t219, t223, (t220 ++ t211) ++ a2_15] : List ByteArray)) := ⟨_, rfl⟩
           replace H : ((sum_Of.f k y224).bind fun bt227 => ((seg_num.f k bt227.1 2).bind fun t229 => (if ((((((t213 ++ t214) ++ t215) ++ t216) ++ t217) ++ t218) ++ t219).size + t229.size ≤ 9223372036854775807 then (if (((((((t213 ++ t214) ++ t215) ++ t216) ++ t217) ++ t218) ++ t219) ++ t229).size + ((t220 ++ t211) ++ a2_15).size ≤ 9223372036854775807 then (some ((((((((t213 ++ t214) ++ t215) ++ t216) ++ t217) ++ t218) ++ t219) ++ t229) ++ ((t220 ++ t211) ++ a2_15), bt227.2)) else (none)) else (none)))) = some (r1, r2) := by first | (rw [hy224]; with_reducible exact H) | (have H2_ := (Option.bind_some _ _).symm.trans H; rw [hy224]; with_reducible exact H2_) | (have H2_ := (Option.bind_some _ _).symm.trans H; with_reducible exact H2_) | with_reducible exact H | (rw [hy224]; exact H) | exact H
           have Ny224 := Aside0.mk hy224
           clear hy224
           replace H := Option.bind_eq_some_iff.mp H
           obtain ⟨⟨t227, t228⟩, A270, H⟩ := H
           replace H : ((seg_num.f k t227 2).bind fun t229 => (if ((((((t213 ++ t214) ++ t215) ++ t216) ++ t217) ++ t218) ++ t219).size + t229.size ≤ 9223372036854775807 then (if (((((((t213 ++ t214) ++ t215) ++ t216) ++ t217) ++ t218) ++ t219) ++ t229).size + ((t220 ++ t211) ++ a2_15).size ≤ 9223372036854775807 then (some ((((((((t213 ++ t214) ++ t215) ++ t216) ++ t217) ++ t218) ++ t219) ++ t229) ++ ((t220 ++ t211) ++ a2_15), t228)) else (none)) else (none))) = some (r1, r2) := H
           have A27 := Aside0.mk A270
           clear A270
           replace H := Option.bind_eq_some_iff.mp H
           obtain ⟨t229, A280, H⟩ := H
           replace H : (if ((((((t213 ++ t214) ++ t215) ++ t216) ++ t217) ++ t218) ++ t219).size + t229.size ≤ 9223372036854775807 then (if (((((((t213 ++ t214) ++ t215) ++ t216) ++ t217) ++ t218) ++ t219) ++ t229).size + ((t220 ++ t211) ++ a2_15).size ≤ 9223372036854775807 then (some ((((((((t213 ++ t214) ++ t215) ++ t216) ++ t217) ++ t218) ++ t219) ++ t229) ++ ((t220 ++ t211) ++ a2_15), t228)) else (none)) else (none)) = some (r1, r2) := H
           have A28 := Aside0.mk A280
           clear A280
           by_cases c29 : ((((((t213 ++ t214) ++ t215) ++ t216) ++ t217) ++ t218) ++ t219).size + t229.size ≤ 9223372036854775807
           ·rw [if_pos c29] at H
            have c29b0 := eq_true c29
            have c29b1 : decide (((((((t213 ++ t214) ++ t215) ++ t216) ++ t217) ++ t218) ++ t219).size + t229.size ≤ 9223372036854775807) = true := decide_eq_true c29
            try have c29b2 : (9223372036854775807 < ((((((t213 ++ t214) ++ t215) ++ t216) ++ t217) ++ t218) ++ t219).size + t229.size) = False := eq_false (Nat.not_lt.2 c29)
            (try (have c29b3 := c29b2; simp only [ByteArray.size_append] at c29b3))
            by_cases c30 : (((((((t213 ++ t214) ++ t215) ++ t216) ++ t217) ++ t218) ++ t219) ++ t229).size + ((t220 ++ t211) ++ a2_15).size ≤ 9223372036854775807
            ·rw [if_pos c30] at H
             have c30b0 := eq_true c30
             have c30b1 : decide ((((((((t213 ++ t214) ++ t215) ++ t216) ++ t217) ++ t218) ++ t219) ++ t229).size + ((t220 ++ t211) ++ a2_15).size ≤ 9223372036854775807) = true := decide_eq_true c30
             try have c30b2 : (9223372036854775807 < (((((((t213 ++ t214) ++ t215) ++ t216) ++ t217) ++ t218) ++ t219) ++ t229).size + ((t220 ++ t211) ++ a2_15).size) = False := eq_false (Nat.not_lt.2 c30)
             (try (have c30b3 := c30b2; simp only [ByteArray.size_append] at c30b3))
             simp only [Option.some.injEq, Prod.mk.injEq] at H
             obtain ⟨rfl, rfl⟩ := H
             go_enter Try.func17, Try.ntmps17
             try go_wp2_with (first | ((with_reducible refine gate_load (t := 26) rfl ?_); refine gate_wanted ?hw (fun hw_ => ?_); (case hw => first | rfl | (go_simp; done)); refine load_big hw_ 26 _ rfl _ rfl 26 _ (0, 0) _ (by (with_reducible repeat (first | apply blk_drewN | apply blk_drew | apply blk_alloc | (apply blk_farA; case hp => assumption) | apply blk_put)); apply Aside0.out; assumption; all_goals (simp only [List.setIfInBounds_toArray, List.set_cons_zero, List.set_cons_succ]; try rfl)) Try.underlying26 rfl (by kernel_rfl) ?_; clear hw_; simp only [Act.put, List.setIfInBounds_toArray, List.set_cons_zero, List.set_cons_succ]) | ((with_reducible refine gate_store (t := 26) rfl ?_); refine store_big rfl 26 _ _ rfl _ _ rfl rfl 26 _ (by (with_reducible repeat (first | apply blk_drewN | apply blk_drew | apply blk_alloc | (apply blk_farA; case hp => assumption) | apply blk_put)); apply Aside0.out; assumption; all_goals (simp only [List.setIfInBounds_toArray, List.set_cons_zero, List.set_cons_succ]; try rfl)) (by kernel_rfl) (by rfl) (by rfl) _ (by simp only [World.setCells, Nat.reduceAdd]; rfl) ?_; simp only [Act.put, List.setIfInBounds_toArray, List.set_cons_zero, List.set_cons_succ]) | ((with_reducible refine gate_dst (N := 5) rfl ?_); refine box_event ?hg (N := 5) ?hd (cs := #[.int .i64 a2_0, .int .i64 a2_1, .int .i64 a2_2, .int .i64 a2_3, .int .i64 a2_4, .int .i64 a2_5, .int .i64 a2_6, .int .i64 a2_7, .int .i64 a2_8, .int .i64 a2_9, .int .i64 a2_10, .bool a2_11, .bool a2_12, .bool a2_13, .slice A2_14 l2_14.length c2_14, .string a2_15]) (t := 26) ?hr ?_; (case hd => rfl); (case hg => rfl); (case hr => first | (go_simp; done) | (go_simp; rfl)); intro gb208 hg w31 hbox hb; have n0_ := Aside0.mk (below_step (by repeat (first | (with_reducible first | exact HB.out | apply below_alloc | apply pw_below_drewN | apply below_drew1) | exact HB.out)) hb); have n1_ := Aside0.mk (hbox); have n2_ := Aside0.mk ((by rw [hg]; exact (below_size (by repeat (first | (with_reducible first | exact HB.out | apply below_alloc | apply pw_below_drewN | apply below_drew1) | exact HB.out))) : w.heap.size ≤ gb208)); have n3_ := Aside0.mk ((by rw [hg]; exact (below_size (by repeat (first | (with_reducible first | exact HB.out | apply below_alloc | apply pw_below_drewN | apply below_drew1) | exact HB.out))) : w.heap.size ≤ gb208)); clear HB; have HB := n0_; have BK208 := n1_; have GW208 := n2_; have GE208 := n3_; clear n0_ n1_ n2_ n3_; clear hb hbox hg) | ((with_reducible refine gate_callee (f := 33) rfl ?_); refine goesL_ (some 20) rfl rfl Try.func33 (by kernel_rfl) rfl #[.int .i64 a0, .int .i64 a1] rfl (by (try simp only [List.map_toArray, List.map_cons, List.map_nil]); first | done | rfl | (simp only [List.length_drop, List.length_take]; rfl)) ?_; (with_reducible refine (seg_addresses.calls a0 a1 t209 _ A4.out).mono ?_); rintro e w32 ⟨rfl, hb⟩; refine ⟨_, rfl, ?_⟩; have n0_ := Aside0.mk (blk_below (g := gb208) (by (with_reducible repeat (first | apply blk_drewN | apply blk_drew | apply blk_alloc)); exact BK208.out) hb); have n1_ := Aside0.mk (below_step (by repeat (first | (with_reducible first | exact HB.out | apply below_alloc | apply pw_below_drewN | apply below_drew1 | refine below_set ?_ GE208.out) | exact HB.out)) hb); clear BK208; clear HB; have BK208 := n0_; have HB := n1_; clear n0_ n1_; (try clear hb); (try clear hb2); (try clear hk); (try clear hi); obtain ⟨hcz33_0, hcz33_1, hcz33_2, hcz33_3, hcz33_4, hcz33_5, hcz33_6, hcz33_7, hcz33_8, hcz33_9, hcz33_10, hcz33_11, hcz33_12, hcz33_13, hcz33_14, hcz33_15⟩ := blk_cells16 BK208.out; obtain ⟨hfz33_0, hfz33_1, hfz33_2, hfz33_3, hfz33_4, hfz33_5, hfz33_6, hfz33_7, hfz33_8, hfz33_9, hfz33_10, hfz33_11, hfz33_12, hfz33_13, hfz33_14, hfz33_15⟩ := blk_frozens16 BK208.out) | ((with_reducible refine gate_callee (f := 14) rfl ?_); refine goesL_ (some 25) rfl rfl Try.func14 (by kernel_rfl) rfl #[.agg #[.int .i64 a2_0, .int .i64 a2_1, .int .i64 a2_2, .int .i64 a2_3, .int .i64 a2_4, .int .i64 a2_5, .int .i64 a2_6, .int .i64 a2_7, .int .i64 a2_8, .int .i64 a2_9, .int .i64 a2_10, .bool a2_11, .bool a2_12, .bool a2_13, .slice A2_14 l2_14.length c2_14, .string a2_15]] rfl (by (try simp only [List.map_toArray, List.map_cons, List.map_nil]); first | done | rfl | (simp only [List.length_drop, List.length_take]; rfl)) ?_; (with_reducible refine (seg_Check.calls k a2_0 a2_1 a2_2 a2_3 a2_4 a2_5 a2_6 a2_7 a2_8 a2_9 a2_10 a2_11 a2_12 a2_13 _ _ l2_14 a2_15 t210 _ ?side1 ?side2 A6.out).mono ?_); (case side1 => repeat (first | exact (Kd.C_below HR2_14.out HB.out) | (with_reducible refine Kd.C_alloc ?_ _) | (with_reducible refine Kd.C_drewN ?_ _) | (with_reducible refine Kd.C_drew ?_))); (case side2 => exact HC2_14.out); rintro e w34 ⟨rfl, hb⟩; refine ⟨_, rfl, ?_⟩; have n0_ := Aside0.mk (blk_below (g := gb208) (by (with_reducible repeat (first | apply blk_drewN | apply blk_drew | apply blk_alloc)); exact BK208.out) hb); have n1_ := Aside0.mk (below_step (by repeat (first | (with_reducible first | exact HB.out | apply below_alloc | apply pw_below_drewN | apply below_drew1 | refine below_set ?_ GE208.out) | exact HB.out)) hb); clear BK208; clear HB; have BK208 := n0_; have HB := n1_; clear n0_ n1_; (try clear hb); (try clear hb2); (try clear hk); (try clear hi); obtain ⟨hcz35_0, hcz35_1, hcz35_2, hcz35_3, hcz35_4, hcz35_5, hcz35_6, hcz35_7, hcz35_8, hcz35_9, hcz35_10, hcz35_11, hcz35_12, hcz35_13, hcz35_14, hcz35_15⟩ := blk_cells16 BK208.out; obtain ⟨hfz35_0, hfz35_1, hfz35_2, hfz35_3, hfz35_4, hfz35_5, hfz35_6, hfz35_7, hfz35_8, hfz35_9, hfz35_10, hfz35_11, hfz35_12, hfz35_13, hfz35_14, hfz35_15⟩ := blk_frozens16 BK208.out) | ((with_reducible refine gate_callee (f := 34) rfl ?_); refine goesL_ (some 32) rfl rfl Try.func34 (by kernel_rfl) rfl #[.agg #[.int .i64 a2_7, .int .i64 a2_8, .int .i64 a2_9, .int .i64 a2_10, .bool a2_11, .bool a2_12, .bool a2_13, .slice A2_14 l2_14.length c2_14]] rfl (by (try simp only [List.map_toArray, List.map_cons, List.map_nil]); first | done | rfl | (simp only [List.length_drop, List.length_take]; rfl)) ?_; (with_reducible refine (opts_Encode.calls k a2_7 a2_8 a2_9 a2_10 a2_11 a2_12 a2_13 _ _ l2_14 t211 t212 _ ?side1 ?side2 A8.out).mono ?_); (case side1 => repeat (first | exact (Kd.C_below HR2_14.out HB.out) | (with_reducible refine Kd.C_alloc ?_ _) | (with_reducible refine Kd.C_drewN ?_ _) | (with_reducible refine Kd.C_drew ?_))); (case side2 => exact HC2_14.out); rintro e w36 ⟨rfl, hb⟩; refine ⟨_, rfl, ?_⟩; have n0_ := Aside0.mk (blk_below (g := gb208) (by (with_reducible repeat (first | apply blk_drewN | apply blk_drew | apply blk_alloc)); exact BK208.out) hb); have n1_ := Aside0.mk (below_step (by repeat (first | (with_reducible first | exact HB.out | apply below_alloc | apply pw_below_drewN | apply below_drew1 | refine below_set ?_ GE208.out) | exact HB.out)) hb); clear BK208; clear HB; have BK208 := n0_; have HB := n1_; clear n0_ n1_; (try clear hb); (try clear hb2); (try clear hk); (try clear hi)))
             have n0_ := Aside0.mk (blk_drew BK208.out)
             have n1_ := Aside0.mk (below_drew1 HB.out)
             clear BK208
             clear HB
             have BK208 := n0_
             have HB := n1_
             clear n0_ n1_
             refine start_ (n := 31) (S := fun w' => w'.cell? ⟨gb208, 0, none⟩ = some (.int .i64 a2_0) ∧ w'.cell? ⟨gb208, 1, none⟩ = some (.int .i64 a2_1) ∧ w'.cell? ⟨gb208, 2, none⟩ = some (.int .i64 a2_2) ∧ w'.cell? ⟨gb208, 3, none⟩ = some (.int .i64 a2_3) ∧ w'.cell? ⟨gb208, 4, none⟩ = some (.int .i64 a2_4) ∧ w'.cell? ⟨gb208, 5, none⟩ = some (.int .i64 a2_5) ∧ w'.cell? ⟨gb208, 6, none⟩ = some (.int .i64 a2_6) ∧ w'.cell? ⟨gb208, 7, none⟩ = some (.int .i64 a2_7) ∧ w'.cell? ⟨gb208, 8, none⟩ = some (.int .i64 a2_8) ∧ w'.cell? ⟨gb208, 9, none⟩ = some (.int .i64 a2_9) ∧ w'.cell? ⟨gb208, 10, none⟩ = some (.int .i64 a2_10) ∧ w'.cell? ⟨gb208, 11, none⟩ = some (.bool a2_11) ∧ w'.cell? ⟨gb208, 12, none⟩ = some (.bool a2_12) ∧ w'.cell? ⟨gb208, 13, none⟩ = some (.bool a2_13) ∧ w'.cell? ⟨gb208, 14, none⟩ = some (.slice A2_14 l2_14.length c2_14) ∧ w'.cell? ⟨gb208, 15, none⟩ = some (.string a2_15)) (ds := []) #[false, false, false, false, false, false, false, false, false, false, false, false, false, false, false, false, false, false, false, false, false, false, false, false, false, false, false, false, false, false, false] (by kernel_rfl) rfl rfl ⟨(blk_cell BK208.out 0).trans rfl, (blk_cell BK208.out 1).trans rfl, (blk_cell BK208.out 2).trans rfl, (blk_cell BK208.out 3).trans rfl, (blk_cell BK208.out 4).trans rfl, (blk_cell BK208.out 5).trans rfl, (blk_cell BK208.out 6).trans rfl, (blk_cell BK208.out 7).trans rfl, (blk_cell BK208.out 8).trans rfl, (blk_cell BK208.out 9).trans rfl, (blk_cell BK208.out 10).trans rfl, (blk_cell BK208.out 11).trans rfl, (blk_cell BK208.out 12).trans rfl, (blk_cell BK208.out 13).trans rfl, (blk_cell BK208.out 14).trans rfl, (blk_cell BK208.out 15).trans rfl⟩ (fun hHeld => ?_); refine with_tabW seg_Encode.tab8 seg_Encode.bits8 (fun HT_ HW_ => ?_)
             generalize w36.drew = w37 at BK208 HB hHeld ⊢
             refine pure_ (i := 0) (N := some 35) (v := ?_) (a' := ?_) #[true, false, false, false, false, false, false, false, false, false, false, false, false, false, false, false, false, false, false, false, false, false, false, false, false, false, false, false, false, false, false] rfl rfl (any_of HT_.out (by kernel_rfl)) (fun _ _ _ h => h) (Or.inl ⟨by rfl, ?_⟩) ?_ ?_
             rotate_left
             ·intro w'
              go_simp
              with_reducible rfl
             rotate_left
             ·simp only [Act.put, List.setIfInBounds_toArray, List.set_cons_zero, List.set_cons_succ, i64_w, i32_w]
              rfl
             refine pure_ (i := 3) (N := some 38) (v := ?_) (a' := ?_) #[true, false, false, true, false, false, false, false, false, false, false, false, false, false, false, false, false, false, false, false, false, false, false, false, false, false, false, false, false, false, false] rfl rfl (any_of HT_.out (by kernel_rfl)) (fun _ _ _ h => h) (Or.inl ⟨by rfl, ?_⟩) ?_ ?_
             rotate_left
             ·intro w'
              go_simp
              with_reducible rfl
             rotate_left
             ·simp only [Act.put, List.setIfInBounds_toArray, List.set_cons_zero, List.set_cons_succ, i64_w, i32_w]
              rfl
             refine pure_ (i := 7) (N := some 42) (v := ?_) (a' := ?_) #[true, false, false, true, false, false, false, true, false, false, false, false, false, false, false, false, false, false, false, false, false, false, false, false, false, false, false, false, false, false, false] rfl rfl (any_of HT_.out (by kernel_rfl)) (fun _ _ _ h => h) (Or.inl ⟨by rfl, ?_⟩) ?_ ?_
             rotate_left
             ·intro w'
              go_simp
              with_reducible rfl
             rotate_left
             ·simp only [Act.put, List.setIfInBounds_toArray, List.set_cons_zero, List.set_cons_succ, i64_w, i32_w]
              rfl
             refine pure_ (i := 11) (N := some 46) (v := ?_) (a' := ?_) #[true, false, false, true, false, false, false, true, false, false, false, true, false, false, false, false, false, false, false, false, false, false, false, false, false, false, false, false, false, false, false] rfl rfl (any_of HT_.out (by kernel_rfl)) (fun _ _ _ h => h) (Or.inl ⟨by rfl, ?_⟩) ?_ ?_
             rotate_left
             ·intro w'
              go_simp
              with_reducible rfl
             rotate_left
             ·simp only [Act.put, List.setIfInBounds_toArray, List.set_cons_zero, List.set_cons_succ, i64_w, i32_w]
              rfl
             refine pure_ (i := 15) (N := some 50) (v := ?_) (a' := ?_) #[true, false, false, true, false, false, false, true, false, false, false, true, false, false, false, true, false, false, false, false, false, false, false, false, false, false, false, false, false, false, false] rfl rfl (any_of HT_.out (by kernel_rfl)) (fun _ _ _ h => h) (Or.inl ⟨by rfl, ?_⟩) ?_ ?_
             rotate_left
             ·intro w'
              go_simp
              with_reducible rfl
             rotate_left
             ·simp only [Act.put, List.setIfInBounds_toArray, List.set_cons_zero, List.set_cons_succ, i64_w, i32_w]
              rfl
             refine pure_ (i := 16) (N := some 51) (v := ?_) (a' := ?_) #[true, false, false, true, false, false, false, true, false, false, false, true, false, false, false, true, true, false, false, false, false, false, false, false, false, false, false, false, false, false, false] rfl rfl (any_of HT_.out (by kernel_rfl)) (fun _ _ _ h => h) (Or.inl ⟨by rfl, ?_⟩) ?_ ?_
             rotate_left
             ·intro w'
              go_simp
              with_reducible rfl
             rotate_left
             ·simp only [Act.put, List.setIfInBounds_toArray, List.set_cons_zero, List.set_cons_succ, i64_w, i32_w]
              rfl
             refine pure_ (i := 17) (N := some 52) (v := ?_) (a' := ?_) #[true, false, false, true, false, false, false, true, false, false, false, true, false, false, false, true, true, true, false, false, false, false, false, false, false, false, false, false, false, false, false] rfl rfl (any_of HT_.out (by kernel_rfl)) (fun _ _ _ h => h) (Or.inl ⟨by rfl, ?_⟩) ?_ ?_
             rotate_left
             ·intro w'
              go_simp
              with_reducible rfl
             rotate_left
             ·simp only [Act.put, List.setIfInBounds_toArray, List.set_cons_zero, List.set_cons_succ, i64_w, i32_w]
              rfl
             refine pure_ (i := 18) (N := some 53) (v := ?_) (a' := ?_) #[true, false, false, true, false, false, false, true, false, false, false, true, false, false, false, true, true, true, true, false, false, false, false, false, false, false, false, false, false, false, false] rfl rfl (any_of HT_.out (by kernel_rfl)) (fun _ _ _ h => h) (Or.inl ⟨by rfl, ?_⟩) ?_ ?_
             rotate_left
             ·intro w'
              go_simp
              with_reducible rfl
             rotate_left
             ·simp only [Act.put, List.setIfInBounds_toArray, List.set_cons_zero, List.set_cons_succ, i64_w, i32_w]
              rfl
             refine pure_ (i := 19) (N := some 54) (v := ?_) (a' := ?_) #[true, false, false, true, false, false, false, true, false, false, false, true, false, false, false, true, true, true, true, true, false, false, false, false, false, false, false, false, false, false, false] rfl rfl (any_of HT_.out (by kernel_rfl)) (fun _ _ _ h => h) (Or.inl ⟨by rfl, ?_⟩) ?_ ?_
             rotate_left
             ·intro w'
              go_simp
              with_reducible rfl
             rotate_left
             ·simp only [Act.put, List.setIfInBounds_toArray, List.set_cons_zero, List.set_cons_succ, i64_w, i32_w]
              rfl
             refine pure_ (i := 22) (N := some 57) (v := ?_) (a' := ?_) #[true, false, false, true, false, false, false, true, false, false, false, true, false, false, false, true, true, true, true, true, false, false, true, false, false, false, false, false, false, false, false] rfl rfl (any_of HT_.out (by kernel_rfl)) (fun _ _ _ h => h) (Or.inl ⟨by rfl, ?_⟩) ?_ ?_
             rotate_left
             ·intro w'
              go_simp
              with_reducible rfl
             rotate_left
             ·simp only [Act.put, List.setIfInBounds_toArray, List.set_cons_zero, List.set_cons_succ, i64_w, i32_w]
              rfl
             refine pure_ (i := 26) (N := some 61) (v := ?_) (a' := ?_) #[true, false, false, true, false, false, false, true, false, false, false, true, false, false, false, true, true, true, true, true, false, false, true, false, false, false, true, false, false, false, false] rfl rfl (any_of HT_.out (by kernel_rfl)) (fun _ _ _ h => h) (Or.inl ⟨by rfl, ?_⟩) ?_ ?_
             rotate_left
             ·intro w'
              go_simp
              with_reducible rfl
             rotate_left
             ·simp only [Act.put, List.setIfInBounds_toArray, List.set_cons_zero, List.set_cons_succ, i64_w, i32_w]
              rfl
             refine take_ (i := 1) (N := some 36) (v := ?_) (a' := ?_) #[true, true, false, true, false, false, false, true, false, false, false, true, false, false, false, true, true, true, true, true, false, false, true, false, false, false, true, false, false, false, false] rfl rfl (take_ofW HT_.out HW_.out (by kernel_rfl)) (fun _ _ _ h => h) (Or.inl ⟨by rfl, ?_⟩) hHeld ?_ ?_
             rotate_left
             ·rintro w' ⟨s0, s1, s2, s3, s4, s5, s6, s7, s8, s9, s10, s11, s12, s13, s14, s15⟩
              go_simp
              with_reducible rfl
             rotate_left
             ·simp only [Act.put, List.setIfInBounds_toArray, List.set_cons_zero, List.set_cons_succ, i64_w, i32_w]
              rfl
             refine take_ (i := 4) (N := some 39) (v := ?_) (a' := ?_) #[true, true, false, true, true, false, false, true, false, false, false, true, false, false, false, true, true, true, true, true, false, false, true, false, false, false, true, false, false, false, false] rfl rfl (take_ofW HT_.out HW_.out (by kernel_rfl)) (fun _ _ _ h => h) (Or.inl ⟨by rfl, ?_⟩) hHeld ?_ ?_
             rotate_left
             ·rintro w' ⟨s0, s1, s2, s3, s4, s5, s6, s7, s8, s9, s10, s11, s12, s13, s14, s15⟩
              go_simp
              with_reducible rfl
             rotate_left
             ·simp only [Act.put, List.setIfInBounds_toArray, List.set_cons_zero, List.set_cons_succ, i64_w, i32_w]
              rfl
             refine take_ (i := 8) (N := some 43) (v := ?_) (a' := ?_) #[true, true, false, true, true, false, false, true, true, false, false, true, false, false, false, true, true, true, true, true, false, false, true, false, false, false, true, false, false, false, false] rfl rfl (take_ofW HT_.out HW_.out (by kernel_rfl)) (fun _ _ _ h => h) (Or.inl ⟨by rfl, ?_⟩) hHeld ?_ ?_
             rotate_left
             ·rintro w' ⟨s0, s1, s2, s3, s4, s5, s6, s7, s8, s9, s10, s11, s12, s13, s14, s15⟩
              go_simp
              with_reducible rfl
             rotate_left
             ·simp only [Act.put, List.setIfInBounds_toArray, List.set_cons_zero, List.set_cons_succ, i64_w, i32_w]
              rfl
             refine take_ (i := 12) (N := some 47) (v := ?_) (a' := ?_) #[true, true, false, true, true, false, false, true, true, false, false, true, true, false, false, true, true, true, true, true, false, false, true, false, false, false, true, false, false, false, false] rfl rfl (take_ofW HT_.out HW_.out (by kernel_rfl)) (fun _ _ _ h => h) (Or.inl ⟨by rfl, ?_⟩) hHeld ?_ ?_
             rotate_left
             ·rintro w' ⟨s0, s1, s2, s3, s4, s5, s6, s7, s8, s9, s10, s11, s12, s13, s14, s15⟩
              go_simp
              with_reducible rfl
             rotate_left
             ·simp only [Act.put, List.setIfInBounds_toArray, List.set_cons_zero, List.set_cons_succ, i64_w, i32_w]
              rfl
             refine take_ (i := 23) (N := some 58) (v := ?_) (a' := ?_) #[true, true, false, true, true, false, false, true, true, false, false, true, true, false, false, true, true, true, true, true, false, false, true, true, false, false, true, false, false, false, false] rfl rfl (take_ofW HT_.out HW_.out (by kernel_rfl)) (fun _ _ _ h => h) (Or.inl ⟨by rfl, ?_⟩) hHeld ?_ ?_
             rotate_left
             ·rintro w' ⟨s0, s1, s2, s3, s4, s5, s6, s7, s8, s9, s10, s11, s12, s13, s14, s15⟩
              go_simp
              with_reducible rfl
             rotate_left
             ·simp only [Act.put, List.setIfInBounds_toArray, List.set_cons_zero, List.set_cons_succ, i64_w, i32_w]
              rfl
             refine take_ (i := 27) (N := some 62) (v := ?_) (a' := ?_) #[true, true, false, true, true, false, false, true, true, false, false, true, true, false, false, true, true, true, true, true, false, false, true, true, false, false, true, true, false, false, false] rfl rfl (take_ofW HT_.out HW_.out (by kernel_rfl)) (fun _ _ _ h => h) (Or.inl ⟨by rfl, ?_⟩) hHeld ?_ ?_
             rotate_left
             ·rintro w' ⟨s0, s1, s2, s3, s4, s5, s6, s7, s8, s9, s10, s11, s12, s13, s14, s15⟩
              go_simp
              with_reducible rfl
             rotate_left
             ·simp only [Act.put, List.setIfInBounds_toArray, List.set_cons_zero, List.set_cons_succ, i64_w, i32_w]
              rfl
             refine one_ (i := 2) (N := some 37) #[true, true, true, true, true, false, false, true, true, false, false, true, true, false, false, true, true, true, true, true, false, false, true, true, false, false, true, true, false, false, false] rfl rfl (one_of HT_.out (by kernel_rfl)) (by decide) (fun K hK => ?_)
             refine goes_ Try.func35 (by kernel_rfl) rfl #[.int .i64 a2_0, .int .i64 2] (by rfl) rfl rfl (by (try simp only [List.map_toArray, List.map_cons, List.map_nil]); first | done | rfl | (simp only [List.length_drop, List.length_take]; rfl)) ?_
             with_reducible refine (seg_num.calls k a2_0 2 t213 _ A9.out).mono ?_
             rintro e w38 ⟨rfl, hb⟩
             refine ⟨_, rfl, ?_⟩
             have n0_ := Aside0.mk (blk_below (g := gb208) (by (with_reducible repeat (first | apply blk_drewN | apply blk_drew | apply blk_alloc)); exact BK208.out) hb)
             have n1_ := Aside0.mk (below_step (by repeat (first | (with_reducible first | exact HB.out | apply below_alloc | apply pw_below_drewN | apply below_drew1 | refine below_set ?_ GE208.out) | exact HB.out)) hb)
             clear BK208
             clear HB
             have BK208 := n0_
             have HB := n1_
             clear n0_ n1_
             (try clear hb)
             (try clear hb2)
             (try clear hk)
             (try clear hi)
             refine hK.out _ _ ⟨(blk_cell BK208.out 0).trans rfl, (blk_cell BK208.out 1).trans rfl, (blk_cell BK208.out 2).trans rfl, (blk_cell BK208.out 3).trans rfl, (blk_cell BK208.out 4).trans rfl, (blk_cell BK208.out 5).trans rfl, (blk_cell BK208.out 6).trans rfl, (blk_cell BK208.out 7).trans rfl, (blk_cell BK208.out 8).trans rfl, (blk_cell BK208.out 9).trans rfl, (blk_cell BK208.out 10).trans rfl, (blk_cell BK208.out 11).trans rfl, (blk_cell BK208.out 12).trans rfl, (blk_cell BK208.out 13).trans rfl, (blk_cell BK208.out 14).trans rfl, (blk_cell BK208.out 15).trans rfl⟩ (fun hHeld => ?_)
             clear hK K
             refine norm_ (a' := ?_) ?_ ?_
             rotate_left
             ·show Act.put _ (some 37) _ = _
              simp only [Act.put, List.setIfInBounds_toArray, List.set_cons_zero, List.set_cons_succ, i64_w, i32_w]
              rfl
             refine one_ (i := 5) (N := some 40) #[true, true, true, true, true, true, false, true, true, false, false, true, true, false, false, true, true, true, true, true, false, false, true, true, false, false, true, true, false, false, false] rfl rfl (one_of HT_.out (by kernel_rfl)) (by decide) (fun K hK => ?_)
             refine goes_ Try.func35 (by kernel_rfl) rfl #[.int .i64 a2_1, .int .i64 2] (by rfl) rfl rfl (by (try simp only [List.map_toArray, List.map_cons, List.map_nil]); first | done | rfl | (simp only [List.length_drop, List.length_take]; rfl)) ?_
             with_reducible refine (seg_num.calls k a2_1 2 t214 _ A10.out).mono ?_
             rintro e w39 ⟨rfl, hb⟩
             refine ⟨_, rfl, ?_⟩
             have n0_ := Aside0.mk (blk_below (g := gb208) (by (with_reducible repeat (first | apply blk_drewN | apply blk_drew | apply blk_alloc)); exact BK208.out) hb)
             have n1_ := Aside0.mk (below_step (by repeat (first | (with_reducible first | exact HB.out | apply below_alloc | apply pw_below_drewN | apply below_drew1 | refine below_set ?_ GE208.out) | exact HB.out)) hb)
             clear BK208
             clear HB
             have BK208 := n0_
             have HB := n1_
             clear n0_ n1_
             (try clear hb)
             (try clear hb2)
             (try clear hk)
             (try clear hi)
             refine hK.out _ _ ⟨(blk_cell BK208.out 0).trans rfl, (blk_cell BK208.out 1).trans rfl, (blk_cell BK208.out 2).trans rfl, (blk_cell BK208.out 3).trans rfl, (blk_cell BK208.out 4).trans rfl, (blk_cell BK208.out 5).trans rfl, (blk_cell BK208.out 6).trans rfl, (blk_cell BK208.out 7).trans rfl, (blk_cell BK208.out 8).trans rfl, (blk_cell BK208.out 9).trans rfl, (blk_cell BK208.out 10).trans rfl, (blk_cell BK208.out 11).trans rfl, (blk_cell BK208.out 12).trans rfl, (blk_cell BK208.out 13).trans rfl, (blk_cell BK208.out 14).trans rfl, (blk_cell BK208.out 15).trans rfl⟩ (fun hHeld => ?_)
             clear hK K
             refine norm_ (a' := ?_) ?_ ?_
             rotate_left
             ·show Act.put _ (some 40) _ = _
              simp only [Act.put, List.setIfInBounds_toArray, List.set_cons_zero, List.set_cons_succ, i64_w, i32_w]
              rfl
             refine pure_ (i := 6) (N := some 41) (v := ?_) (a' := ?_) #[true, true, true, true, true, true, true, true, true, false, false, true, true, false, false, true, true, true, true, true, false, false, true, true, false, false, true, true, false, false, false] rfl rfl (any_of HT_.out (by kernel_rfl)) (fun _ _ _ h => h) (Or.inl ⟨by rfl, ?_⟩) ?_ ?_
             rotate_left
             ·intro w'
              go_simp
              first | (with_reducible rfl) | ((repeat (first | rw [if_pos (by simp only [ByteArray.size_extract, ByteArray.size_append, eq_iff_iff, iff_true, iff_false, Nat.not_lt] at *; first | omega | (simp only [ByteArray.size, List.size_toArray, List.length_cons, List.length_nil] at *; omega))] | rw [if_neg (by simp only [ByteArray.size_extract, ByteArray.size_append, eq_iff_iff, iff_true, iff_false, Nat.not_lt] at *; first | omega | (simp only [ByteArray.size, List.size_toArray, List.length_cons, List.length_nil] at *; omega))])); try with_reducible rfl)
             rotate_left
             ·simp only [Act.put, List.setIfInBounds_toArray, List.set_cons_zero, List.set_cons_succ, i64_w, i32_w]
              rfl
             refine one_ (i := 9) (N := some 44) #[true, true, true, true, true, true, true, true, true, true, false, true, true, false, false, true, true, true, true, true, false, false, true, true, false, false, true, true, false, false, false] rfl rfl (one_of HT_.out (by kernel_rfl)) (by decide) (fun K hK => ?_)
             refine goes_ Try.func35 (by kernel_rfl) rfl #[.int .i64 a2_2, .int .i64 4] (by rfl) rfl rfl (by (try simp only [List.map_toArray, List.map_cons, List.map_nil]); first | done | rfl | (simp only [List.length_drop, List.length_take]; rfl)) ?_
             with_reducible refine (seg_num.calls k a2_2 4 t215 _ A12.out).mono ?_
             rintro e w40 ⟨rfl, hb⟩
             refine ⟨_, rfl, ?_⟩
             have n0_ := Aside0.mk (blk_below (g := gb208) (by (with_reducible repeat (first | apply blk_drewN | apply blk_drew | apply blk_alloc)); exact BK208.out) hb)
             have n1_ := Aside0.mk (below_step (by repeat (first | (with_reducible first | exact HB.out | apply below_alloc | apply pw_below_drewN | apply below_drew1 | refine below_set ?_ GE208.out) | exact HB.out)) hb)
             clear BK208
             clear HB
             have BK208 := n0_
             have HB := n1_
             clear n0_ n1_
             (try clear hb)
             (try clear hb2)
             (try clear hk)
             (try clear hi)
             refine hK.out _ _ ⟨(blk_cell BK208.out 0).trans rfl, (blk_cell BK208.out 1).trans rfl, (blk_cell BK208.out 2).trans rfl, (blk_cell BK208.out 3).trans rfl, (blk_cell BK208.out 4).trans rfl, (blk_cell BK208.out 5).trans rfl, (blk_cell BK208.out 6).trans rfl, (blk_cell BK208.out 7).trans rfl, (blk_cell BK208.out 8).trans rfl, (blk_cell BK208.out 9).trans rfl, (blk_cell BK208.out 10).trans rfl, (blk_cell BK208.out 11).trans rfl, (blk_cell BK208.out 12).trans rfl, (blk_cell BK208.out 13).trans rfl, (blk_cell BK208.out 14).trans rfl, (blk_cell BK208.out 15).trans rfl⟩ (fun hHeld => ?_)
             clear hK K
             refine norm_ (a' := ?_) ?_ ?_
             rotate_left
             ·show Act.put _ (some 44) _ = _
              simp only [Act.put, List.setIfInBounds_toArray, List.set_cons_zero, List.set_cons_succ, i64_w, i32_w]
              rfl
             refine pure_ (i := 10) (N := some 45) (v := ?_) (a' := ?_) #[true, true, true, true, true, true, true, true, true, true, true, true, true, false, false, true, true, true, true, true, false, false, true, true, false, false, true, true, false, false, false] rfl rfl (any_of HT_.out (by kernel_rfl)) (fun _ _ _ h => h) (Or.inl ⟨by rfl, ?_⟩) ?_ ?_
             rotate_left
             ·intro w'
              go_simp
              first | (with_reducible rfl) | ((repeat (first | rw [if_pos (by simp only [ByteArray.size_extract, ByteArray.size_append, eq_iff_iff, iff_true, iff_false, Nat.not_lt] at *; first | omega | (simp only [ByteArray.size, List.size_toArray, List.length_cons, List.length_nil] at *; omega))] | rw [if_neg (by simp only [ByteArray.size_extract, ByteArray.size_append, eq_iff_iff, iff_true, iff_false, Nat.not_lt] at *; first | omega | (simp only [ByteArray.size, List.size_toArray, List.length_cons, List.length_nil] at *; omega))])); try with_reducible rfl)
             rotate_left
             ·simp only [Act.put, List.setIfInBounds_toArray, List.set_cons_zero, List.set_cons_succ, i64_w, i32_w]
              rfl
             refine one_ (i := 13) (N := some 48) #[true, true, true, true, true, true, true, true, true, true, true, true, true, true, false, true, true, true, true, true, false, false, true, true, false, false, true, true, false, false, false] rfl rfl (one_of HT_.out (by kernel_rfl)) (by decide) (fun K hK => ?_)
             refine goes_ Try.func35 (by kernel_rfl) rfl #[.int .i64 a2_3, .int .i64 4] (by rfl) rfl rfl (by (try simp only [List.map_toArray, List.map_cons, List.map_nil]); first | done | rfl | (simp only [List.length_drop, List.length_take]; rfl)) ?_
             with_reducible refine (seg_num.calls k a2_3 4 t216 _ A14.out).mono ?_
             rintro e w41 ⟨rfl, hb⟩
             refine ⟨_, rfl, ?_⟩
             have n0_ := Aside0.mk (blk_below (g := gb208) (by (with_reducible repeat (first | apply blk_drewN | apply blk_drew | apply blk_alloc)); exact BK208.out) hb)
             have n1_ := Aside0.mk (below_step (by repeat (first | (with_reducible first | exact HB.out | apply below_alloc | apply pw_below_drewN | apply below_drew1 | refine below_set ?_ GE208.out) | exact HB.out)) hb)
             clear BK208
             clear HB
             have BK208 := n0_
             have HB := n1_
             clear n0_ n1_
             (try clear hb)
             (try clear hb2)
             (try clear hk)
             (try clear hi)
             refine hK.out _ _ ⟨(blk_cell BK208.out 0).trans rfl, (blk_cell BK208.out 1).trans rfl, (blk_cell BK208.out 2).trans rfl, (blk_cell BK208.out 3).trans rfl, (blk_cell BK208.out 4).trans rfl, (blk_cell BK208.out 5).trans rfl, (blk_cell BK208.out 6).trans rfl, (blk_cell BK208.out 7).trans rfl, (blk_cell BK208.out 8).trans rfl, (blk_cell BK208.out 9).trans rfl, (blk_cell BK208.out 10).trans rfl, (blk_cell BK208.out 11).trans rfl, (blk_cell BK208.out 12).trans rfl, (blk_cell BK208.out 13).trans rfl, (blk_cell BK208.out 14).trans rfl, (blk_cell BK208.out 15).trans rfl⟩ (fun hHeld => ?_)
             clear hK K
             refine norm_ (a' := ?_) ?_ ?_
             rotate_left
             ·show Act.put _ (some 48) _ = _
              simp only [Act.put, List.setIfInBounds_toArray, List.set_cons_zero, List.set_cons_succ, i64_w, i32_w]
              rfl
             refine pure_ (i := 14) (N := some 49) (v := ?_) (a' := ?_) #[true, true, true, true, true, true, true, true, true, true, true, true, true, true, true, true, true, true, true, true, false, false, true, true, false, false, true, true, false, false, false] rfl rfl (any_of HT_.out (by kernel_rfl)) (fun _ _ _ h => h) (Or.inl ⟨by rfl, ?_⟩) ?_ ?_
             rotate_left
             ·intro w'
              go_simp
              first | (with_reducible rfl) | ((repeat (first | rw [if_pos (by simp only [ByteArray.size_extract, ByteArray.size_append, eq_iff_iff, iff_true, iff_false, Nat.not_lt] at *; first | omega | (simp only [ByteArray.size, List.size_toArray, List.length_cons, List.length_nil] at *; omega))] | rw [if_neg (by simp only [ByteArray.size_extract, ByteArray.size_append, eq_iff_iff, iff_true, iff_false, Nat.not_lt] at *; first | omega | (simp only [ByteArray.size, List.size_toArray, List.length_cons, List.length_nil] at *; omega))])); try with_reducible rfl)
             rotate_left
             ·simp only [Act.put, List.setIfInBounds_toArray, List.set_cons_zero, List.set_cons_succ, i64_w, i32_w]
              rfl
             refine one_ (i := 20) (N := some 55) #[true, true, true, true, true, true, true, true, true, true, true, true, true, true, true, true, true, true, true, true, true, false, true, true, false, false, true, true, false, false, false] rfl rfl (one_of HT_.out (by kernel_rfl)) (by decide) (fun K hK => ?_)
             refine goes_ Try.func35 (by kernel_rfl) rfl #[.int .i64 (wrap64 ((wrap64 (Int.tdiv (wrap64 (20 + (t211.size : Int))) 4)) * 16)), .int .i64 1] (by rfl) rfl rfl (by (try simp only [List.map_toArray, List.map_cons, List.map_nil]); first | done | rfl | (simp only [List.length_drop, List.length_take]; rfl)) ?_
             with_reducible refine (seg_num.calls k (wrap64 ((wrap64 (Int.tdiv (wrap64 (20 + (t211.size : Int))) 4)) * 16)) 1 t217 _ A16.out).mono ?_
             rintro e w42 ⟨rfl, hb⟩
             refine ⟨_, rfl, ?_⟩
             have n0_ := Aside0.mk (blk_below (g := gb208) (by (with_reducible repeat (first | apply blk_drewN | apply blk_drew | apply blk_alloc)); exact BK208.out) hb)
             have n1_ := Aside0.mk (below_step (by repeat (first | (with_reducible first | exact HB.out | apply below_alloc | apply pw_below_drewN | apply below_drew1 | refine below_set ?_ GE208.out) | exact HB.out)) hb)
             clear BK208
             clear HB
             have BK208 := n0_
             have HB := n1_
             clear n0_ n1_
             (try clear hb)
             (try clear hb2)
             (try clear hk)
             (try clear hi)
             refine hK.out _ _ ⟨(blk_cell BK208.out 0).trans rfl, (blk_cell BK208.out 1).trans rfl, (blk_cell BK208.out 2).trans rfl, (blk_cell BK208.out 3).trans rfl, (blk_cell BK208.out 4).trans rfl, (blk_cell BK208.out 5).trans rfl, (blk_cell BK208.out 6).trans rfl, (blk_cell BK208.out 7).trans rfl, (blk_cell BK208.out 8).trans rfl, (blk_cell BK208.out 9).trans rfl, (blk_cell BK208.out 10).trans rfl, (blk_cell BK208.out 11).trans rfl, (blk_cell BK208.out 12).trans rfl, (blk_cell BK208.out 13).trans rfl, (blk_cell BK208.out 14).trans rfl, (blk_cell BK208.out 15).trans rfl⟩ (fun hHeld => ?_)
             clear hK K
             refine norm_ (a' := ?_) ?_ ?_
             rotate_left
             ·show Act.put _ (some 55) _ = _
              simp only [Act.put, List.setIfInBounds_toArray, List.set_cons_zero, List.set_cons_succ, i64_w, i32_w]
              rfl
             refine pure_ (i := 21) (N := some 56) (v := ?_) (a' := ?_) #[true, true, true, true, true, true, true, true, true, true, true, true, true, true, true, true, true, true, true, true, true, true, true, true, false, false, true, true, false, false, false] rfl rfl (any_of HT_.out (by kernel_rfl)) (fun _ _ _ h => h) (Or.inl ⟨by rfl, ?_⟩) ?_ ?_
             rotate_left
             ·intro w'
              go_simp
              first | (with_reducible rfl) | ((repeat (first | rw [if_pos (by simp only [ByteArray.size_extract, ByteArray.size_append, eq_iff_iff, iff_true, iff_false, Nat.not_lt] at *; first | omega | (simp only [ByteArray.size, List.size_toArray, List.length_cons, List.length_nil] at *; omega))] | rw [if_neg (by simp only [ByteArray.size_extract, ByteArray.size_append, eq_iff_iff, iff_true, iff_false, Nat.not_lt] at *; first | omega | (simp only [ByteArray.size, List.size_toArray, List.length_cons, List.length_nil] at *; omega))])); try with_reducible rfl)
             rotate_left
             ·simp only [Act.put, List.setIfInBounds_toArray, List.set_cons_zero, List.set_cons_succ, i64_w, i32_w]
              rfl
             refine one_ (i := 24) (N := some 59) #[true, true, true, true, true, true, true, true, true, true, true, true, true, true, true, true, true, true, true, true, true, true, true, true, true, false, true, true, false, false, false] rfl rfl (one_of HT_.out (by kernel_rfl)) (by decide) (fun K hK => ?_)
             refine goes_ Try.func35 (by kernel_rfl) rfl #[.int .i64 a2_4, .int .i64 1] (by rfl) rfl rfl (by (try simp only [List.map_toArray, List.map_cons, List.map_nil]); first | done | rfl | (simp only [List.length_drop, List.length_take]; rfl)) ?_
             with_reducible refine (seg_num.calls k a2_4 1 t218 _ A18.out).mono ?_
             rintro e w43 ⟨rfl, hb⟩
             refine ⟨_, rfl, ?_⟩
             have n0_ := Aside0.mk (blk_below (g := gb208) (by (with_reducible repeat (first | apply blk_drewN | apply blk_drew | apply blk_alloc)); exact BK208.out) hb)
             have n1_ := Aside0.mk (below_step (by repeat (first | (with_reducible first | exact HB.out | apply below_alloc | apply pw_below_drewN | apply below_drew1 | refine below_set ?_ GE208.out) | exact HB.out)) hb)
             clear BK208
             clear HB
             have BK208 := n0_
             have HB := n1_
             clear n0_ n1_
             (try clear hb)
             (try clear hb2)
             (try clear hk)
             (try clear hi)
             refine hK.out _ _ ⟨(blk_cell BK208.out 0).trans rfl, (blk_cell BK208.out 1).trans rfl, (blk_cell BK208.out 2).trans rfl, (blk_cell BK208.out 3).trans rfl, (blk_cell BK208.out 4).trans rfl, (blk_cell BK208.out 5).trans rfl, (blk_cell BK208.out 6).trans rfl, (blk_cell BK208.out 7).trans rfl, (blk_cell BK208.out 8).trans rfl, (blk_cell BK208.out 9).trans rfl, (blk_cell BK208.out 10).trans rfl, (blk_cell BK208.out 11).trans rfl, (blk_cell BK208.out 12).trans rfl, (blk_cell BK208.out 13).trans rfl, (blk_cell BK208.out 14).trans rfl, (blk_cell BK208.out 15).trans rfl⟩ (fun hHeld => ?_)
             clear hK K
             refine norm_ (a' := ?_) ?_ ?_
             rotate_left
             ·show Act.put _ (some 59) _ = _
              simp only [Act.put, List.setIfInBounds_toArray, List.set_cons_zero, List.set_cons_succ, i64_w, i32_w]
              rfl
             refine pure_ (i := 25) (N := some 60) (v := ?_) (a' := ?_) #[true, true, true, true, true, true, true, true, true, true, true, true, true, true, true, true, true, true, true, true, true, true, true, true, true, true, true, true, false, false, false] rfl rfl (any_of HT_.out (by kernel_rfl)) (fun _ _ _ h => h) (Or.inl ⟨by rfl, ?_⟩) ?_ ?_
             rotate_left
             ·intro w'
              go_simp
              first | (with_reducible rfl) | ((repeat (first | rw [if_pos (by simp only [ByteArray.size_extract, ByteArray.size_append, eq_iff_iff, iff_true, iff_false, Nat.not_lt] at *; first | omega | (simp only [ByteArray.size, List.size_toArray, List.length_cons, List.length_nil] at *; omega))] | rw [if_neg (by simp only [ByteArray.size_extract, ByteArray.size_append, eq_iff_iff, iff_true, iff_false, Nat.not_lt] at *; first | omega | (simp only [ByteArray.size, List.size_toArray, List.length_cons, List.length_nil] at *; omega))])); try with_reducible rfl)
             rotate_left
             ·simp only [Act.put, List.setIfInBounds_toArray, List.set_cons_zero, List.set_cons_succ, i64_w, i32_w]
              rfl
             refine one_ (i := 28) (N := some 63) #[true, true, true, true, true, true, true, true, true, true, true, true, true, true, true, true, true, true, true, true, true, true, true, true, true, true, true, true, true, false, false] rfl rfl (one_of HT_.out (by kernel_rfl)) (by decide) (fun K hK => ?_)
             refine goes_ Try.func35 (by kernel_rfl) rfl #[.int .i64 a2_5, .int .i64 2] (by rfl) rfl rfl (by (try simp only [List.map_toArray, List.map_cons, List.map_nil]); first | done | rfl | (simp only [List.length_drop, List.length_take]; rfl)) ?_
             with_reducible refine (seg_num.calls k a2_5 2 t219 _ A20.out).mono ?_
             rintro e w44 ⟨rfl, hb⟩
             refine ⟨_, rfl, ?_⟩
             have n0_ := Aside0.mk (blk_below (g := gb208) (by (with_reducible repeat (first | apply blk_drewN | apply blk_drew | apply blk_alloc)); exact BK208.out) hb)
             have n1_ := Aside0.mk (below_step (by repeat (first | (with_reducible first | exact HB.out | apply below_alloc | apply pw_below_drewN | apply below_drew1 | refine below_set ?_ GE208.out) | exact HB.out)) hb)
             clear BK208
             clear HB
             have BK208 := n0_
             have HB := n1_
             clear n0_ n1_
             (try clear hb)
             (try clear hb2)
             (try clear hk)
             (try clear hi)
             refine hK.out _ _ ⟨(blk_cell BK208.out 0).trans rfl, (blk_cell BK208.out 1).trans rfl, (blk_cell BK208.out 2).trans rfl, (blk_cell BK208.out 3).trans rfl, (blk_cell BK208.out 4).trans rfl, (blk_cell BK208.out 5).trans rfl, (blk_cell BK208.out 6).trans rfl, (blk_cell BK208.out 7).trans rfl, (blk_cell BK208.out 8).trans rfl, (blk_cell BK208.out 9).trans rfl, (blk_cell BK208.out 10).trans rfl, (blk_cell BK208.out 11).trans rfl, (blk_cell BK208.out 12).trans rfl, (blk_cell BK208.out 13).trans rfl, (blk_cell BK208.out 14).trans rfl, (blk_cell BK208.out 15).trans rfl⟩ (fun hHeld => ?_)
             clear hK K
             refine norm_ (a' := ?_) ?_ ?_
             rotate_left
             ·show Act.put _ (some 63) _ = _
              simp only [Act.put, List.setIfInBounds_toArray, List.set_cons_zero, List.set_cons_succ, i64_w, i32_w]
              rfl
             refine pure_ (i := 29) (N := some 64) (v := ?_) (a' := ?_) #[true, true, true, true, true, true, true, true, true, true, true, true, true, true, true, true, true, true, true, true, true, true, true, true, true, true, true, true, true, true, false] rfl rfl (any_of HT_.out (by kernel_rfl)) (fun _ _ _ h => h) (Or.inl ⟨by rfl, ?_⟩) ?_ ?_
             rotate_left
             ·intro w'
              go_simp
              first | (with_reducible rfl) | ((repeat (first | rw [if_pos (by simp only [ByteArray.size_extract, ByteArray.size_append, eq_iff_iff, iff_true, iff_false, Nat.not_lt] at *; first | omega | (simp only [ByteArray.size, List.size_toArray, List.length_cons, List.length_nil] at *; omega))] | rw [if_neg (by simp only [ByteArray.size_extract, ByteArray.size_append, eq_iff_iff, iff_true, iff_false, Nat.not_lt] at *; first | omega | (simp only [ByteArray.size, List.size_toArray, List.length_cons, List.length_nil] at *; omega))])); try with_reducible rfl)
             rotate_left
             ·simp only [Act.put, List.setIfInBounds_toArray, List.set_cons_zero, List.set_cons_succ, i64_w, i32_w]
              rfl
             refine pure_ (i := 30) (N := some 12) (v := ?_) (a' := ?_) #[true, true, true, true, true, true, true, true, true, true, true, true, true, true, true, true, true, true, true, true, true, true, true, true, true, true, true, true, true, true, true] rfl rfl (any_of HT_.out (by kernel_rfl)) (fun _ _ _ h => h) (Or.inl ⟨by rfl, ?_⟩) ?_ ?_
             rotate_left
             ·intro w'
              go_simp
              with_reducible rfl
             rotate_left
             ·simp only [Act.put, List.setIfInBounds_toArray, List.set_cons_zero, List.set_cons_succ, i64_w, i32_w]
              rfl
             refine done_ (done_of HT_.out (by kernel_rfl)) ?_
             try go_wp2_with (first | ((with_reducible refine gate_load (t := 26) rfl ?_); refine gate_wanted ?hw (fun hw_ => ?_); (case hw => first | rfl | (go_simp; done)); refine load_big hw_ 26 _ rfl _ rfl 26 _ (0, 0) _ (by (with_reducible repeat (first | apply blk_drewN | apply blk_drew | apply blk_alloc | (apply blk_farA; case hp => assumption) | apply blk_put)); apply Aside0.out; assumption; all_goals (simp only [List.setIfInBounds_toArray, List.set_cons_zero, List.set_cons_succ]; try rfl)) Try.underlying26 rfl (by kernel_rfl) ?_; clear hw_; simp only [Act.put, List.setIfInBounds_toArray, List.set_cons_zero, List.set_cons_succ]) | ((with_reducible refine gate_store (t := 26) rfl ?_); refine store_big rfl 26 _ _ rfl _ _ rfl rfl 26 _ (by (with_reducible repeat (first | apply blk_drewN | apply blk_drew | apply blk_alloc | (apply blk_farA; case hp => assumption) | apply blk_put)); apply Aside0.out; assumption; all_goals (simp only [List.setIfInBounds_toArray, List.set_cons_zero, List.set_cons_succ]; try rfl)) (by kernel_rfl) (by rfl) (by rfl) _ (by simp only [World.setCells, Nat.reduceAdd]; rfl) ?_; simp only [Act.put, List.setIfInBounds_toArray, List.set_cons_zero, List.set_cons_succ]) | go_in)
             have n0_ := Aside0.mk (blk_drew BK208.out)
             have n1_ := Aside0.mk (below_drew1 HB.out)
             clear BK208
             clear HB
             have BK208 := n0_
             have HB := n1_
             clear n0_ n1_
             refine start_ (n := 9) (S := fun w' => w'.cell? ⟨gb208, 0, none⟩ = some (.int .i64 a2_0) ∧ w'.cell? ⟨gb208, 1, none⟩ = some (.int .i64 a2_1) ∧ w'.cell? ⟨gb208, 2, none⟩ = some (.int .i64 a2_2) ∧ w'.cell? ⟨gb208, 3, none⟩ = some (.int .i64 a2_3) ∧ w'.cell? ⟨gb208, 4, none⟩ = some (.int .i64 a2_4) ∧ w'.cell? ⟨gb208, 5, none⟩ = some (.int .i64 a2_5) ∧ w'.cell? ⟨gb208, 6, none⟩ = some (.int .i64 a2_6) ∧ w'.cell? ⟨gb208, 7, none⟩ = some (.int .i64 a2_7) ∧ w'.cell? ⟨gb208, 8, none⟩ = some (.int .i64 a2_8) ∧ w'.cell? ⟨gb208, 9, none⟩ = some (.int .i64 a2_9) ∧ w'.cell? ⟨gb208, 10, none⟩ = some (.int .i64 a2_10) ∧ w'.cell? ⟨gb208, 11, none⟩ = some (.bool a2_11) ∧ w'.cell? ⟨gb208, 12, none⟩ = some (.bool a2_12) ∧ w'.cell? ⟨gb208, 13, none⟩ = some (.bool a2_13) ∧ w'.cell? ⟨gb208, 14, none⟩ = some (.slice A2_14 l2_14.length c2_14) ∧ w'.cell? ⟨gb208, 15, none⟩ = some (.string a2_15)) (ds := []) #[false, false, false, false, false, false, false, false, false] (by kernel_rfl) rfl rfl ⟨(blk_cell BK208.out 0).trans rfl, (blk_cell BK208.out 1).trans rfl, (blk_cell BK208.out 2).trans rfl, (blk_cell BK208.out 3).trans rfl, (blk_cell BK208.out 4).trans rfl, (blk_cell BK208.out 5).trans rfl, (blk_cell BK208.out 6).trans rfl, (blk_cell BK208.out 7).trans rfl, (blk_cell BK208.out 8).trans rfl, (blk_cell BK208.out 9).trans rfl, (blk_cell BK208.out 10).trans rfl, (blk_cell BK208.out 11).trans rfl, (blk_cell BK208.out 12).trans rfl, (blk_cell BK208.out 13).trans rfl, (blk_cell BK208.out 14).trans rfl, (blk_cell BK208.out 15).trans rfl⟩ (fun hHeld => ?_); refine with_tabW seg_Encode.tab9 seg_Encode.bits9 (fun HT_ HW_ => ?_)
             generalize w44.drew = w45 at BK208 HB hHeld ⊢
             refine pure_ (i := 0) (N := some 65) (v := ?_) (a' := ?_) #[true, false, false, false, false, false, false, false, false] rfl rfl (any_of HT_.out (by kernel_rfl)) (fun _ _ _ h => h) (Or.inl ⟨by rfl, ?_⟩) ?_ ?_
             rotate_left
             ·intro w'
              go_simp
              with_reducible rfl
             rotate_left
             ·simp only [Act.put, List.setIfInBounds_toArray, List.set_cons_zero, List.set_cons_succ, i64_w, i32_w]
              rfl
             refine pure_ (i := 3) (N := some 68) (v := ?_) (a' := ?_) #[true, false, false, true, false, false, false, false, false] rfl rfl (any_of HT_.out (by kernel_rfl)) (fun _ _ _ h => h) (Or.inl ⟨by rfl, ?_⟩) ?_ ?_
             rotate_left
             ·intro w'
              go_simp
              with_reducible rfl
             rotate_left
             ·simp only [Act.put, List.setIfInBounds_toArray, List.set_cons_zero, List.set_cons_succ, i64_w, i32_w]
              rfl
             refine pure_ (i := 5) (N := some 70) (v := ?_) (a' := ?_) #[true, false, false, true, false, true, false, false, false] rfl rfl (any_of HT_.out (by kernel_rfl)) (fun _ _ _ h => h) (Or.inl ⟨by rfl, ?_⟩) ?_ ?_
             rotate_left
             ·intro w'
              go_simp
              with_reducible rfl
             rotate_left
             ·simp only [Act.put, List.setIfInBounds_toArray, List.set_cons_zero, List.set_cons_succ, i64_w, i32_w]
              rfl
             refine take_ (i := 1) (N := some 66) (v := ?_) (a' := ?_) #[true, true, false, true, false, true, false, false, false] rfl rfl (take_ofW HT_.out HW_.out (by kernel_rfl)) (fun _ _ _ h => h) (Or.inl ⟨by rfl, ?_⟩) hHeld ?_ ?_
             rotate_left
             ·rintro w' ⟨s0, s1, s2, s3, s4, s5, s6, s7, s8, s9, s10, s11, s12, s13, s14, s15⟩
              go_simp
              with_reducible rfl
             rotate_left
             ·simp only [Act.put, List.setIfInBounds_toArray, List.set_cons_zero, List.set_cons_succ, i64_w, i32_w]
              rfl
             refine take_ (i := 6) (N := some 71) (v := ?_) (a' := ?_) #[true, true, false, true, false, true, true, false, false] rfl rfl (take_ofW HT_.out HW_.out (by kernel_rfl)) (fun _ _ _ h => h) (Or.inl ⟨by rfl, ?_⟩) hHeld ?_ ?_
             rotate_left
             ·rintro w' ⟨s0, s1, s2, s3, s4, s5, s6, s7, s8, s9, s10, s11, s12, s13, s14, s15⟩
              go_simp
              with_reducible rfl
             rotate_left
             ·simp only [Act.put, List.setIfInBounds_toArray, List.set_cons_zero, List.set_cons_succ, i64_w, i32_w]
              rfl
             refine one_ (i := 2) (N := some 67) #[true, true, true, true, false, true, true, false, false] rfl rfl (one_of HT_.out (by kernel_rfl)) (by decide) (fun K hK => ?_)
             refine goes_ Try.func35 (by kernel_rfl) rfl #[.int .i64 a2_6, .int .i64 2] (by rfl) rfl rfl (by (try simp only [List.map_toArray, List.map_cons, List.map_nil]); first | done | rfl | (simp only [List.length_drop, List.length_take]; rfl)) ?_
             with_reducible refine (seg_num.calls k a2_6 2 t220 _ A22.out).mono ?_
             rintro e w46 ⟨rfl, hb⟩
             refine ⟨_, rfl, ?_⟩
             have n0_ := Aside0.mk (blk_below (g := gb208) (by (with_reducible repeat (first | apply blk_drewN | apply blk_drew | apply blk_alloc)); exact BK208.out) hb)
             have n1_ := Aside0.mk (below_step (by repeat (first | (with_reducible first | exact HB.out | apply below_alloc | apply pw_below_drewN | apply below_drew1 | refine below_set ?_ GE208.out) | exact HB.out)) hb)
             clear BK208
             clear HB
             have BK208 := n0_
             have HB := n1_
             clear n0_ n1_
             (try clear hb)
             (try clear hb2)
             (try clear hk)
             (try clear hi)
             refine hK.out _ _ ⟨(blk_cell BK208.out 0).trans rfl, (blk_cell BK208.out 1).trans rfl, (blk_cell BK208.out 2).trans rfl, (blk_cell BK208.out 3).trans rfl, (blk_cell BK208.out 4).trans rfl, (blk_cell BK208.out 5).trans rfl, (blk_cell BK208.out 6).trans rfl, (blk_cell BK208.out 7).trans rfl, (blk_cell BK208.out 8).trans rfl, (blk_cell BK208.out 9).trans rfl, (blk_cell BK208.out 10).trans rfl, (blk_cell BK208.out 11).trans rfl, (blk_cell BK208.out 12).trans rfl, (blk_cell BK208.out 13).trans rfl, (blk_cell BK208.out 14).trans rfl, (blk_cell BK208.out 15).trans rfl⟩ (fun hHeld => ?_)
             clear hK K
             refine norm_ (a' := ?_) ?_ ?_
             rotate_left
             ·show Act.put _ (some 67) _ = _
              simp only [Act.put, List.setIfInBounds_toArray, List.set_cons_zero, List.set_cons_succ, i64_w, i32_w]
              rfl
             refine pure_ (i := 4) (N := some 69) (v := ?_) (a' := ?_) #[true, true, true, true, true, true, true, false, false] rfl rfl (any_of HT_.out (by kernel_rfl)) (fun _ _ _ h => h) (Or.inl ⟨by rfl, ?_⟩) ?_ ?_
             rotate_left
             ·intro w'
              go_simp
              first | (with_reducible rfl) | ((repeat (first | rw [if_pos (by simp only [ByteArray.size_extract, ByteArray.size_append, eq_iff_iff, iff_true, iff_false, Nat.not_lt] at *; first | omega | (simp only [ByteArray.size, List.size_toArray, List.length_cons, List.length_nil] at *; omega))] | rw [if_neg (by simp only [ByteArray.size_extract, ByteArray.size_append, eq_iff_iff, iff_true, iff_false, Nat.not_lt] at *; first | omega | (simp only [ByteArray.size, List.size_toArray, List.length_cons, List.length_nil] at *; omega))])); try with_reducible rfl)
             rotate_left
             ·simp only [Act.put, List.setIfInBounds_toArray, List.set_cons_zero, List.set_cons_succ, i64_w, i32_w]
              rfl
             refine pure_ (i := 7) (N := some 72) (v := ?_) (a' := ?_) #[true, true, true, true, true, true, true, true, false] rfl rfl (any_of HT_.out (by kernel_rfl)) (fun _ _ _ h => h) (Or.inl ⟨by rfl, ?_⟩) ?_ ?_
             rotate_left
             ·intro w'
              go_simp
              first | (with_reducible rfl) | ((repeat (first | rw [if_pos (by simp only [ByteArray.size_extract, ByteArray.size_append, eq_iff_iff, iff_true, iff_false, Nat.not_lt] at *; first | omega | (simp only [ByteArray.size, List.size_toArray, List.length_cons, List.length_nil] at *; omega))] | rw [if_neg (by simp only [ByteArray.size_extract, ByteArray.size_append, eq_iff_iff, iff_true, iff_false, Nat.not_lt] at *; first | omega | (simp only [ByteArray.size, List.size_toArray, List.length_cons, List.length_nil] at *; omega))])); try with_reducible rfl)
             rotate_left
             ·simp only [Act.put, List.setIfInBounds_toArray, List.set_cons_zero, List.set_cons_succ, i64_w, i32_w]
              rfl
             refine pure_ (i := 8) (N := some 13) (v := ?_) (a' := ?_) #[true, true, true, true, true, true, true, true, true] rfl rfl (any_of HT_.out (by kernel_rfl)) (fun _ _ _ h => h) (Or.inl ⟨by rfl, ?_⟩) ?_ ?_
             rotate_left
             ·intro w'
              go_simp
              with_reducible rfl
             rotate_left
             ·simp only [Act.put, List.setIfInBounds_toArray, List.set_cons_zero, List.set_cons_succ, i64_w, i32_w]
              rfl
             refine done_ (done_of HT_.out (by kernel_rfl)) ?_
             try go_wp2_with (first | ((with_reducible refine gate_load (t := 26) rfl ?_); refine gate_wanted ?hw (fun hw_ => ?_); (case hw => first | rfl | (go_simp; done)); refine load_big hw_ 26 _ rfl _ rfl 26 _ (0, 0) _ (by (with_reducible repeat (first | apply blk_drewN | apply blk_drew | apply blk_alloc | (apply blk_farA; case hp => assumption) | apply blk_put)); apply Aside0.out; assumption; all_goals (simp only [List.setIfInBounds_toArray, List.set_cons_zero, List.set_cons_succ]; try rfl)) Try.underlying26 rfl (by kernel_rfl) ?_; clear hw_; simp only [Act.put, List.setIfInBounds_toArray, List.set_cons_zero, List.set_cons_succ]) | ((with_reducible refine gate_store (t := 26) rfl ?_); refine store_big rfl 26 _ _ rfl _ _ rfl rfl 26 _ (by (with_reducible repeat (first | apply blk_drewN | apply blk_drew | apply blk_alloc | (apply blk_farA; case hp => assumption) | apply blk_put)); apply Aside0.out; assumption; all_goals (simp only [List.setIfInBounds_toArray, List.set_cons_zero, List.set_cons_succ]; try rfl)) (by kernel_rfl) (by rfl) (by rfl) _ (by simp only [World.setCells, Nat.reduceAdd]; rfl) ?_; simp only [Act.put, List.setIfInBounds_toArray, List.set_cons_zero, List.set_cons_succ]) | ((with_reducible refine gate_callee (f := 22) rfl ?_); refine goesL_ (some 82) rfl rfl Try.func22 (by kernel_rfl) rfl #[.int .i64 a0, .int .i64 a1, .int .i64 6, .int .i64 (wrap64 ((wrap64 ((((((((t213 ++ t214) ++ t215) ++ t216) ++ t217) ++ t218) ++ t219).size : Int) + 2)) + (((t220 ++ t211) ++ a2_15).size : Int)))] rfl (by (try simp only [List.map_toArray, List.map_cons, List.map_nil]); first | done | rfl | (simp only [List.length_drop, List.length_take]; rfl) | (simp only [ByteArray.size_append, Int.natCast_add]; first | done | rfl)) ?_; (with_reducible refine (sum_Pseudo.calls k a0 a1 6 (wrap64 ((wrap64 ((((((((t213 ++ t214) ++ t215) ++ t216) ++ t217) ++ t218) ++ t219).size : Int) + 2)) + (((t220 ++ t211) ++ a2_15).size : Int))) t221 t222 _ A25.out).mono ?_); rintro e w47 ⟨rfl, hb⟩; refine ⟨_, rfl, ?_⟩; have n0_ := Aside0.mk (blk_below (g := gb208) (by (with_reducible repeat (first | apply blk_drewN | apply blk_drew | apply blk_alloc)); exact BK208.out) hb); have n1_ := Aside0.mk (below_step (by repeat (first | (with_reducible first | exact HB.out | apply below_alloc | apply pw_below_drewN | apply below_drew1 | refine below_set ?_ GE208.out) | exact HB.out)) hb); clear BK208; clear HB; have BK208 := n0_; have HB := n1_; clear n0_ n1_; (try clear hb); (try clear hb2); (try clear hk); (try clear hi)) | ((with_reducible refine gate_callee (f := 35) rfl ?_); refine goesL_ (some 88) rfl rfl Try.func35 (by kernel_rfl) rfl #[.int .i64 0, .int .i64 2] rfl (by (try simp only [List.map_toArray, List.map_cons, List.map_nil]); first | done | rfl | (simp only [List.length_drop, List.length_take]; rfl)) ?_; (with_reducible refine (seg_num.calls k 0 2 t223 _ A26.out).mono ?_); rintro e w48 ⟨rfl, hb⟩; refine ⟨_, rfl, ?_⟩; have n0_ := Aside0.mk (blk_below (g := gb208) (by (with_reducible repeat (first | apply blk_drewN | apply blk_drew | apply blk_alloc)); exact BK208.out) hb); have n1_ := Aside0.mk (below_step (by repeat (first | (with_reducible first | exact HB.out | apply below_alloc | apply pw_below_drewN | apply below_drew1 | refine below_set ?_ GE208.out) | exact HB.out)) hb); clear BK208; clear HB; have BK208 := n0_; have HB := n1_; clear n0_ n1_; (try clear hb); (try clear hb2); (try clear hk); (try clear hi)) | ((with_reducible refine gate_dst (N := 90) rfl ?_); refine Kd.R_lit Kd.string _ 9 ?hg (N := 90) ?hd (xs := ([t221, (((((t213 ++ t214) ++ t215) ++ t216) ++ t217) ++ t218) ++ t219, t223, (t220 ++ t211) ++ a2_15] : List ByteArray)) (inner := [.string t221, .string ((((((t213 ++ t214) ++ t215) ++ t216) ++ t217) ++ t218) ++ t219), .string t223, .string ((t220 ++ t211) ++ a2_15)]) (ok := fun _ => True) (okp := fun _ => True) ?hr ?hp (fun _ hk => hk) trivial (Below.refl _ _) (Nat.le_refl _) (by simp) ?_; (case hd => rfl); (case hg => rfl); (case hr => first | (go_simp; done) | (go_simp; rfl)); (case hp => exact (Reps.one (show Kd.M Kd.string _ _ _ t221 [.string t221] from rfl) (Reps.one (show Kd.M Kd.string _ _ _ ((((((t213 ++ t214) ++ t215) ++ t216) ++ t217) ++ t218) ++ t219) [.string ((((((t213 ++ t214) ++ t215) ++ t216) ++ t217) ++ t218) ++ t219)] from rfl) (Reps.one (show Kd.M Kd.string _ _ _ t223 [.string t223] from rfl) (Reps.one (show Kd.M Kd.string _ _ _ ((t220 ++ t211) ++ a2_15) [.string ((t220 ++ t211) ++ a2_15)] from rfl) (Reps.none _ _)))))); intro v225 w49 ho50 hb hg_ hnew_; clear hg_ hnew_; (first | rw [← Ny224.out] at ho50 | (simp only [Int.reduceToNat] at ho50; rw [← Ny224.out] at ho50)); have n0_ := Aside0.mk (Kd.R_lower ho50 (below_size (by repeat (first | (with_reducible first | exact HB.out | apply below_alloc | apply pw_below_drewN | apply below_drew1 | refine below_set ?_ GE208.out) | exact HB.out)))); have n1_ := Aside0.mk (blk_below (g := gb208) (by (with_reducible repeat (first | apply blk_drewN | apply blk_drew | apply blk_alloc)); exact BK208.out) hb); have n2_ := Aside0.mk (below_step (by repeat (first | (with_reducible first | exact HB.out | apply below_alloc | apply pw_below_drewN | apply below_drew1 | refine below_set ?_ GE208.out) | exact HB.out)) hb); clear BK208; clear HB; have HO226 := n0_; have BK208 := n1_; have HB := n2_; clear n0_ n1_ n2_; clear hb ho50; obtain ⟨Ao51, co51, eo51⟩ := Kd.R_slice HO226.out; subst eo51) | ((with_reducible refine gate_callee (f := 36) rfl ?_); refine goesL_ (some 91) rfl rfl Try.func36 (by kernel_rfl) rfl #[.slice Ao51 y224.length co51] rfl (by (try simp only [List.map_toArray, List.map_cons, List.map_nil]); first | done | rfl | (simp only [List.length_drop, List.length_take]; rfl)) ?_; (with_reducible refine (sum_Of.calls k _ _ y224 t227 t228 _ ?side1 ?side2 A27.out).mono ?_); (case side1 => repeat (first | exact (Kd.R_reads' HO226.out).2.2 | (with_reducible refine Kd.C_alloc ?_ _) | (with_reducible refine Kd.C_drewN ?_ _) | (with_reducible refine Kd.C_drew ?_))); (case side2 => exact (Kd.R_reads' HO226.out).2.1); rintro e w' ⟨rfl, ⟨nd, rfl⟩⟩; refine ⟨_, rfl, ?_⟩) | ((with_reducible refine gate_callee (f := 35) rfl ?_); refine goesL_ (some 96) rfl rfl Try.func35 (by kernel_rfl) rfl #[.int .i64 t227, .int .i64 2] rfl (by (try simp only [List.map_toArray, List.map_cons, List.map_nil]); first | done | rfl | (simp only [List.length_drop, List.length_take]; rfl)) ?_; (with_reducible refine (seg_num.calls k t227 2 t229 _ A28.out).mono ?_); rintro e w52 ⟨rfl, hb⟩; refine ⟨_, rfl, ?_⟩; have n0_ := Aside0.mk (Kd.R_below (by (with_reducible repeat (first | apply Kd.R_alloc | apply Kd.R_drewN | apply Kd.R_drew)); exact HO226.out) hb); have n1_ := Aside0.mk (blk_below (g := gb208) (by (with_reducible repeat (first | apply blk_drewN | apply blk_drew | apply blk_alloc)); exact BK208.out) hb); have n2_ := Aside0.mk (below_step (by repeat (first | (with_reducible first | exact HB.out | apply below_alloc | apply pw_below_drewN | apply below_drew1 | refine below_set ?_ GE208.out) | exact HB.out)) hb); clear HO226; clear BK208; clear HB; have HO226 := n0_; have BK208 := n1_; have HB := n2_; clear n0_ n1_ n2_; (try clear hb); (try clear hb2); (try clear hk); (try clear hi)))
             go_ret2
             exact ⟨by first | rfl | (simp [errW_none, errW_some] <;> rfl) | (simp [*, errW_none, errW_some] <;> rfl), by repeat (first | (with_reducible first | exact HB.out | apply below_alloc | apply pw_below_drewN | apply below_drew1 | refine below_set ?_ GE208.out) | exact HB.out)⟩
            ·rw [if_neg c30] at H
             exact absurd H (by simp)
           ·rw [if_neg c29] at H
            exact absurd H (by simp)
          ·rw [if_neg c24] at H
           exact absurd H (by simp)
         ·rw [if_neg c23] at H
          exact absurd H (by simp)
        ·rw [if_neg c21] at H
         exact absurd H (by simp)
       ·rw [if_neg c19] at H
        exact absurd H (by simp)
      ·rw [if_neg c17] at H
       exact absurd H (by simp)
     ·rw [if_neg c15] at H
      exact absurd H (by simp)
    ·rw [if_neg c13] at H
     exact absurd H (by simp)
   ·rw [if_neg c11] at H
    exact absurd H (by simp)
  ·rw [if_neg c7] at H
   have c7b0 : (t210 == 0) = false := beq_eq_false_iff_ne.mpr c7
   have c7b1 : (t210 != 0) = true := bne_iff_ne.mpr c7
   simp only [Option.some.injEq, Prod.mk.injEq] at H
   obtain ⟨rfl, rfl⟩ := H
   go_enter Try.func17, Try.ntmps17
   go_wp2_with (first | ((with_reducible refine gate_load (t := 26) rfl ?_); refine gate_wanted ?hw (fun hw_ => ?_); (case hw => first | rfl | (go_simp; done)); refine load_big hw_ 26 _ rfl _ rfl 26 _ (0, 0) _ (by (with_reducible repeat (first | apply blk_drewN | apply blk_drew | apply blk_alloc | (apply blk_farA; case hp => assumption) | apply blk_put)); apply Aside0.out; assumption; all_goals (simp only [List.setIfInBounds_toArray, List.set_cons_zero, List.set_cons_succ]; try rfl)) Try.underlying26 rfl (by kernel_rfl) ?_; clear hw_; simp only [Act.put, List.setIfInBounds_toArray, List.set_cons_zero, List.set_cons_succ]) | ((with_reducible refine gate_store (t := 26) rfl ?_); refine store_big rfl 26 _ _ rfl _ _ rfl rfl 26 _ (by (with_reducible repeat (first | apply blk_drewN | apply blk_drew | apply blk_alloc | (apply blk_farA; case hp => assumption) | apply blk_put)); apply Aside0.out; assumption; all_goals (simp only [List.setIfInBounds_toArray, List.set_cons_zero, List.set_cons_succ]; try rfl)) (by kernel_rfl) (by rfl) (by rfl) _ (by simp only [World.setCells, Nat.reduceAdd]; rfl) ?_; simp only [Act.put, List.setIfInBounds_toArray, List.set_cons_zero, List.set_cons_succ]) | ((with_reducible refine gate_dst (N := 5) rfl ?_); refine box_event ?hg (N := 5) ?hd (cs := #[.int .i64 a2_0, .int .i64 a2_1, .int .i64 a2_2, .int .i64 a2_3, .int .i64 a2_4, .int .i64 a2_5, .int .i64 a2_6, .int .i64 a2_7, .int .i64 a2_8, .int .i64 a2_9, .int .i64 a2_10, .bool a2_11, .bool a2_12, .bool a2_13, .slice A2_14 l2_14.length c2_14, .string a2_15]) (t := 26) ?hr ?_; (case hd => rfl); (case hg => rfl); (case hr => first | (go_simp; done) | (go_simp; rfl)); intro gb208 hg w53 hbox hb; have n0_ := Aside0.mk (below_step (by repeat (first | (with_reducible first | exact HB.out | apply below_alloc | apply pw_below_drewN | apply below_drew1) | exact HB.out)) hb); have n1_ := Aside0.mk (hbox); have n2_ := Aside0.mk ((by rw [hg]; exact (below_size (by repeat (first | (with_reducible first | exact HB.out | apply below_alloc | apply pw_below_drewN | apply below_drew1) | exact HB.out))) : w.heap.size ≤ gb208)); have n3_ := Aside0.mk ((by rw [hg]; exact (below_size (by repeat (first | (with_reducible first | exact HB.out | apply below_alloc | apply pw_below_drewN | apply below_drew1) | exact HB.out))) : w.heap.size ≤ gb208)); clear HB; have HB := n0_; have BK208 := n1_; have GW208 := n2_; have GE208 := n3_; clear n0_ n1_ n2_ n3_; clear hb hbox hg) | ((with_reducible refine gate_callee (f := 33) rfl ?_); refine goesL_ (some 20) rfl rfl Try.func33 (by kernel_rfl) rfl #[.int .i64 a0, .int .i64 a1] rfl (by (try simp only [List.map_toArray, List.map_cons, List.map_nil]); first | done | rfl | (simp only [List.length_drop, List.length_take]; rfl)) ?_; (with_reducible refine (seg_addresses.calls a0 a1 t209 _ A4.out).mono ?_); rintro e w54 ⟨rfl, hb⟩; refine ⟨_, rfl, ?_⟩; have n0_ := Aside0.mk (blk_below (g := gb208) (by (with_reducible repeat (first | apply blk_drewN | apply blk_drew | apply blk_alloc)); exact BK208.out) hb); have n1_ := Aside0.mk (below_step (by repeat (first | (with_reducible first | exact HB.out | apply below_alloc | apply pw_below_drewN | apply below_drew1 | refine below_set ?_ GE208.out) | exact HB.out)) hb); clear BK208; clear HB; have BK208 := n0_; have HB := n1_; clear n0_ n1_; (try clear hb); (try clear hb2); (try clear hk); (try clear hi); obtain ⟨hcz55_0, hcz55_1, hcz55_2, hcz55_3, hcz55_4, hcz55_5, hcz55_6, hcz55_7, hcz55_8, hcz55_9, hcz55_10, hcz55_11, hcz55_12, hcz55_13, hcz55_14, hcz55_15⟩ := blk_cells16 BK208.out; obtain ⟨hfz55_0, hfz55_1, hfz55_2, hfz55_3, hfz55_4, hfz55_5, hfz55_6, hfz55_7, hfz55_8, hfz55_9, hfz55_10, hfz55_11, hfz55_12, hfz55_13, hfz55_14, hfz55_15⟩ := blk_frozens16 BK208.out) | ((with_reducible refine gate_callee (f := 14) rfl ?_); refine goesL_ (some 25) rfl rfl Try.func14 (by kernel_rfl) rfl #[.agg #[.int .i64 a2_0, .int .i64 a2_1, .int .i64 a2_2, .int .i64 a2_3, .int .i64 a2_4, .int .i64 a2_5, .int .i64 a2_6, .int .i64 a2_7, .int .i64 a2_8, .int .i64 a2_9, .int .i64 a2_10, .bool a2_11, .bool a2_12, .bool a2_13, .slice A2_14 l2_14.length c2_14, .string a2_15]] rfl (by (try simp only [List.map_toArray, List.map_cons, List.map_nil]); first | done | rfl | (simp only [List.length_drop, List.length_take]; rfl)) ?_; (with_reducible refine (seg_Check.calls k a2_0 a2_1 a2_2 a2_3 a2_4 a2_5 a2_6 a2_7 a2_8 a2_9 a2_10 a2_11 a2_12 a2_13 _ _ l2_14 a2_15 t210 _ ?side1 ?side2 A6.out).mono ?_); (case side1 => repeat (first | exact (Kd.C_below HR2_14.out HB.out) | (with_reducible refine Kd.C_alloc ?_ _) | (with_reducible refine Kd.C_drewN ?_ _) | (with_reducible refine Kd.C_drew ?_))); (case side2 => exact HC2_14.out); rintro e w56 ⟨rfl, hb⟩; refine ⟨_, rfl, ?_⟩; have n0_ := Aside0.mk (blk_below (g := gb208) (by (with_reducible repeat (first | apply blk_drewN | apply blk_drew | apply blk_alloc)); exact BK208.out) hb); have n1_ := Aside0.mk (below_step (by repeat (first | (with_reducible first | exact HB.out | apply below_alloc | apply pw_below_drewN | apply below_drew1 | refine below_set ?_ GE208.out) | exact HB.out)) hb); clear BK208; clear HB; have BK208 := n0_; have HB := n1_; clear n0_ n1_; (try clear hb); (try clear hb2); (try clear hk); (try clear hi)))
   go_ret2
   exact ⟨by first | rfl | (simp [errW_none, errW_some] <;> rfl) | (simp [*, errW_none, errW_some] <;> rfl), by repeat (first | (with_reducible first | exact HB.out | apply below_alloc | apply pw_below_drewN | apply below_drew1 | refine below_set ?_ GE208.out) | exact HB.out)⟩
 ·rw [if_neg c5] at H
  have c5b0 : (t209 == 0) = false := beq_eq_false_iff_ne.mpr c5
  have c5b1 : (t209 != 0) = true := bne_iff_ne.mpr c5
  simp only [Option.some.injEq, Prod.mk.injEq] at H
  obtain ⟨rfl, rfl⟩ := H
  go_enter Try.func17, Try.ntmps17
  go_wp2_with (first | ((with_reducible refine gate_load (t := 26) rfl ?_); refine gate_wanted ?hw (fun hw_ => ?_); (case hw => first | rfl | (go_simp; done)); refine load_big hw_ 26 _ rfl _ rfl 26 _ (0, 0) _ (by (with_reducible repeat (first | apply blk_drewN | apply blk_drew | apply blk_alloc | (apply blk_farA; case hp => assumption) | apply blk_put)); apply Aside0.out; assumption; all_goals (simp only [List.setIfInBounds_toArray, List.set_cons_zero, List.set_cons_succ]; try rfl)) Try.underlying26 rfl (by kernel_rfl) ?_; clear hw_; simp only [Act.put, List.setIfInBounds_toArray, List.set_cons_zero, List.set_cons_succ]) | ((with_reducible refine gate_store (t := 26) rfl ?_); refine store_big rfl 26 _ _ rfl _ _ rfl rfl 26 _ (by (with_reducible repeat (first | apply blk_drewN | apply blk_drew | apply blk_alloc | (apply blk_farA; case hp => assumption) | apply blk_put)); apply Aside0.out; assumption; all_goals (simp only [List.setIfInBounds_toArray, List.set_cons_zero, List.set_cons_succ]; try rfl)) (by kernel_rfl) (by rfl) (by rfl) _ (by simp only [World.setCells, Nat.reduceAdd]; rfl) ?_; simp only [Act.put, List.setIfInBounds_toArray, List.set_cons_zero, List.set_cons_succ]) | ((with_reducible refine gate_dst (N := 5) rfl ?_); refine box_event ?hg (N := 5) ?hd (cs := #[.int .i64 a2_0, .int .i64 a2_1, .int .i64 a2_2, .int .i64 a2_3, .int .i64 a2_4, .int .i64 a2_5, .int .i64 a2_6, .int .i64 a2_7, .int .i64 a2_8, .int .i64 a2_9, .int .i64 a2_10, .bool a2_11, .bool a2_12, .bool a2_13, .slice A2_14 l2_14.length c2_14, .string a2_15]) (t := 26) ?hr ?_; (case hd => rfl); (case hg => rfl); (case hr => first | (go_simp; done) | (go_simp; rfl)); intro gb208 hg w57 hbox hb; have n0_ := Aside0.mk (below_step (by repeat (first | (with_reducible first | exact HB.out | apply below_alloc | apply pw_below_drewN | apply below_drew1) | exact HB.out)) hb); have n1_ := Aside0.mk (hbox); have n2_ := Aside0.mk ((by rw [hg]; exact (below_size (by repeat (first | (with_reducible first | exact HB.out | apply below_alloc | apply pw_below_drewN | apply below_drew1) | exact HB.out))) : w.heap.size ≤ gb208)); have n3_ := Aside0.mk ((by rw [hg]; exact (below_size (by repeat (first | (with_reducible first | exact HB.out | apply below_alloc | apply pw_below_drewN | apply below_drew1) | exact HB.out))) : w.heap.size ≤ gb208)); clear HB; have HB := n0_; have BK208 := n1_; have GW208 := n2_; have GE208 := n3_; clear n0_ n1_ n2_ n3_; clear hb hbox hg) | ((with_reducible refine gate_callee (f := 33) rfl ?_); refine goesL_ (some 20) rfl rfl Try.func33 (by kernel_rfl) rfl #[.int .i64 a0, .int .i64 a1] rfl (by (try simp only [List.map_toArray, List.map_cons, List.map_nil]); first | done | rfl | (simp only [List.length_drop, List.length_take]; rfl)) ?_; (with_reducible refine (seg_addresses.calls a0 a1 t209 _ A4.out).mono ?_); rintro e w58 ⟨rfl, hb⟩; refine ⟨_, rfl, ?_⟩; have n0_ := Aside0.mk (blk_below (g := gb208) (by (with_reducible repeat (first | apply blk_drewN | apply blk_drew | apply blk_alloc)); exact BK208.out) hb); have n1_ := Aside0.mk (below_step (by repeat (first | (with_reducible first | exact HB.out | apply below_alloc | apply pw_below_drewN | apply below_drew1 | refine below_set ?_ GE208.out) | exact HB.out)) hb); clear BK208; clear HB; have BK208 := n0_; have HB := n1_; clear n0_ n1_; (try clear hb); (try clear hb2); (try clear hk); (try clear hi)))
  go_ret2
  exact ⟨by first | rfl | (simp [errW_none, errW_some] <;> rfl) | (simp [*, errW_none, errW_some] <;> rfl), by repeat (first | (with_reducible first | exact HB.out | apply below_alloc | apply pw_below_drewN | apply below_drew1 | refine below_set ?_ GE208.out) | exact HB.out)⟩

/-! ### sum_Whole: function 23 -/
def sum_Whole.f (k : Nat) (a0 : ByteArray) : Option (Bool) := (sum_total.f k (([a0] : List ByteArray))).bind fun t233 => (some (t233 == 65535))
theorem sum_Whole.mono : ∀ a0 k, LeO (sum_Whole.f k a0) (sum_Whole.f (k + 1) a0) := by
 intro a0 k
 unfold sum_Whole.f
 repeat' first
   | (with_reducible exact sum_total.mono _ _)
   | (with_reducible exact LeO.refl _)
   | (with_reducible exact LeO.none _)
   | (with_reducible refine LeO.ite ?_ ?_)
   | (with_reducible refine LeO.bind ?_ (fun _ => ?_))
   | exact sum_total.mono _ _
   | exact LeO.none _
   | refine LeO.ite ?_ ?_
   | refine LeO.bind ?_ (fun _ => ?_)
set_option maxHeartbeats 8000000 in
set_option maxRecDepth 100000 in
theorem sum_Whole.calls (k : Nat) (a0 : ByteArray) (r : Bool) (w : World) (h : sum_Whole.f k a0 = some r) :
  Calls Try.prog 23 #[.string a0] w fun e w' => e = .returned (.bool r) ∧ Below w.heap.size w w' := by
 have HB := Aside0.mk (Below.refl w.heap.size w)
 have H : ((sum_total.f k (([a0] : List ByteArray))).bind fun t233 => (some (t233 == 65535))) = some r := h
 clear h
 obtain ⟨y230, hy230⟩ : ∃ y_ : List ByteArray, y_ = (([a0] : List ByteArray)) := ⟨_, rfl⟩
 replace H : ((sum_total.f k y230).bind fun t233 => (some (t233 == 65535))) = some r := by first | (rw [hy230]; with_reducible exact H) | (have H2_ := (Option.bind_some _ _).symm.trans H; rw [hy230]; with_reducible exact H2_) | (have H2_ := (Option.bind_some _ _).symm.trans H; with_reducible exact H2_) | with_reducible exact H | (rw [hy230]; exact H) | exact H
 have Ny230 := Aside0.mk hy230
 clear hy230
 replace H := Option.bind_eq_some_iff.mp H
 obtain ⟨t233, A20, H⟩ := H
 replace H : (some (t233 == 65535)) = some r := H
 have A2 := Aside0.mk A20
 clear A20
 obtain rfl := Option.some.inj H
 go_enter Try.func23, Try.ntmps23
 go_wp2_with (first | ((with_reducible refine gate_dst (N := 4) rfl ?_); refine Kd.R_lit Kd.string _ 9 ?hg (N := 4) ?hd (xs := ([a0] : List ByteArray)) (inner := [.string a0]) (ok := fun _ => True) (okp := fun _ => True) ?hr ?hp (fun _ hk => hk) trivial (Below.refl _ _) (Nat.le_refl _) (by simp) ?_; (case hd => rfl); (case hg => rfl); (case hr => first | (go_simp; done) | (go_simp; rfl)); (case hp => exact (Reps.one (show Kd.M Kd.string _ _ _ a0 [.string a0] from rfl) (Reps.none _ _))); intro v231 w3 ho4 hb hg_ hnew_; clear hg_ hnew_; (first | rw [← Ny230.out] at ho4 | (simp only [Int.reduceToNat] at ho4; rw [← Ny230.out] at ho4)); have n0_ := Aside0.mk (Kd.R_lower ho4 (below_size (by repeat (first | (with_reducible first | exact HB.out | apply below_alloc | apply pw_below_drewN | apply below_drew1) | exact HB.out)))); have n1_ := Aside0.mk (below_step (by repeat (first | (with_reducible first | exact HB.out | apply below_alloc | apply pw_below_drewN | apply below_drew1) | exact HB.out)) hb); clear HB; have HO232 := n0_; have HB := n1_; clear n0_ n1_; clear hb ho4; obtain ⟨Ao5, co5, eo5⟩ := Kd.R_slice HO232.out; subst eo5) | ((with_reducible refine gate_callee (f := 41) rfl ?_); refine goesL_ (some 5) rfl rfl Try.func41 (by kernel_rfl) rfl #[.slice Ao5 y230.length co5] rfl (by (try simp only [List.map_toArray, List.map_cons, List.map_nil]); first | done | rfl | (simp only [List.length_drop, List.length_take]; rfl)) ?_; (with_reducible refine (sum_total.calls k _ _ y230 t233 _ ?side1 ?side2 A2.out).mono ?_); (case side1 => repeat (first | exact (Kd.R_reads' HO232.out).2.2 | (with_reducible refine Kd.C_alloc ?_ _) | (with_reducible refine Kd.C_drewN ?_ _) | (with_reducible refine Kd.C_drew ?_))); (case side2 => exact (Kd.R_reads' HO232.out).2.1); rintro e w' ⟨rfl, ⟨nd, rfl⟩⟩; refine ⟨_, rfl, ?_⟩))
 go_ret
 exact ⟨by first | rfl | (simp [errW_none, errW_some] <;> rfl) | (simp [*, errW_none, errW_some] <;> rfl), by repeat (first | (with_reducible first | exact HB.out | apply below_alloc | apply pw_below_drewN | apply below_drew1) | exact HB.out)⟩

end Go.Proofs.Ytakajeoeijnmhaa.PSegBack
