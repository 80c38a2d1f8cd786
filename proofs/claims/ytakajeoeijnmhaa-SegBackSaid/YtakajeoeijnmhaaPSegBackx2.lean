-- Laid by this claim's own program over the print's words.
import Derived.Test.YtakajeoeijnmhaaPSegBackx0
namespace Go.Proofs.Ytakajeoeijnmhaa.PSegBack
open Go.RowKit Go.Proofs.YtakajeoeijnmhaaW.PrintWords Go.Proofs.YtakajeoeijnmhaaW.PrintLast Go.Proofs.YtakajeoeijnmhaaW.PrintMore
attribute [local go_sem] max2_int min2_int max_two min_two max_three min_three max_four min_four max_five min_five extract_cut tmod_nat_lit   -- for this text's walks alone
set_option linter.unusedVariables false
set_option linter.unusedSimpArgs false

theorem eqA70 (d : Nat) (w : World) (x0 y0 : Int) (x1 y1 : Int) (x2 y2 : Int) (x3 y3 : Int) :
  (Op.equalIn (d + 2) 70 (.agg #[.int .i64 x0, .int .i64 x1, .int .i64 x2, .int .i64 x3]) (.agg #[.int .i64 y0, .int .i64 y1, .int .i64 y2, .int .i64 y3])).run Try.prog w = .ok (x0 == y0 && (x1 == y1 && (x2 == y2 && (x3 == y3)))) w := by
 refine eqR_of Try.underlying70 (by kernel_rfl) [0, 1, 2, 3] (by decide) (by kernel_rfl) ?_
 refine eqi_cons (by go_simp; rfl) (by go_simp; rfl) (by go_simp) ?_
 refine eqi_cons (by go_simp; rfl) (by go_simp; rfl) (by go_simp) ?_
 refine eqi_cons (by go_simp; rfl) (by go_simp; rfl) (by go_simp) ?_
 exact eqi_last (by go_simp; rfl) (by go_simp; rfl) (by go_simp)
end Go.Proofs.Ytakajeoeijnmhaa.PSegBack
