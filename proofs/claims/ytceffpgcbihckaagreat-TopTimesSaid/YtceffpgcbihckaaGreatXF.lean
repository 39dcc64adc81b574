/- The closed facts of the row of TopTimes. No condition. -/
import Derived.Test.YtceffpgcbihckaaGreatRows
import Derived.JoinedOf
import Derived.KernelRfl
namespace Go.Proofs.YtceffpgcbihckaaGreat.topTimes
theorem f_inPlace : Tryz.prog.inPlace 3 = Rows.topTimesRow.inPlace := by kernel_rfl
theorem f_unf : Tryz.prog.unfollowed 3 = true := by kernel_rfl
theorem f_rec : Tryz.prog.recurses 3 = true := by kernel_rfl
theorem f_named : Tryz.prog.varsNamed 3 = Rows.topTimesRow.named := by kernel_rfl
theorem f_laid : laidOutB Tryz.prog = true := by kernel_rfl
theorem f_rowed : mapsRowed Tryz.prog = true := by kernel_rfl
end Go.Proofs.YtceffpgcbihckaaGreat.topTimes
namespace Go.Proofs.YtceffpgcbihckaaGreat.topTimes
theorem f_fn : Tryz.prog.funcNamed Rows.topTimesRow.func = some 3 := by kernel_rfl
theorem f_join : joinedFacts Tryz.prog 3 Tryz.f3 Rows.topTimesSpec Rows.topTimesRow = true := by
 unfold joinedFacts
 rw [f_inPlace, f_unf, f_rec, f_named, f_laid, f_rowed]
 kernel_rfl
theorem f_inst : Tryz.f3.isInstance Tryz.prog Rows.topTimesRow.origin Rows.topTimesRow.targs := of_decide_eq_true (by kernel_rfl)
theorem f_wrap : Tryz.f3.isWrapper Tryz.prog Rows.topTimesRow.wrapper Rows.topTimesRow.mainSum := by unfold Func.isWrapper; first | (rw [if_pos (by decide +kernel)]; kernel_rfl) | (rw [if_neg (by decide +kernel)]; exact ⟨rfl, rfl⟩)
end Go.Proofs.YtceffpgcbihckaaGreat.topTimes
