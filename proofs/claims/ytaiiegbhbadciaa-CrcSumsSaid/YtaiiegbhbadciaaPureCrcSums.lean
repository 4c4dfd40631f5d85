/- The law CrcSums, of plain numbers and lists: More and Sum agree with the sum told bit by bit. No condition beside the sizes that the row itself gives. -/
import Derived.Test.YtaiiegbhbadciaaLF07
namespace Go.Proofs.Ytaiiegbhbadciaa.Pure
open Go.RowKit Go.Proofs.Ytaiiegbhbadciaa.Base Go.Proofs.YtaiiegbhbadciaaW.PrintWords Go.Proofs.YtaiiegbhbadciaaW.PrintMore Go.Proofs.Ytaiiegbhbadciaa.PF07
set_option linter.unusedVariables false
set_option linter.unusedSimpArgs false
open Go.Proofs.Ytaiiegbhbadciaa.LF07

theorem CrcSums : batonlaw07_CrcSums.Pure := by
  intro sum l hs hlm _ hb
  have bs := bounds_u32 hs
  have bb := bytes_of hb
  unfold maxLen at hlm
  refine Ev.rounds ?_
  unfold batonlaw07_CrcSums.f
  refine ev_bind1 awake07 ?_
  simp only [if_true]
  by_cases c1 : (l.length : Int) > 300
  · simp only [if_pos c1]
    exact ev_some _
  · simp only [if_neg c1]
    refine ev_bind (More_ev sum l bs.1 bs.2 bb (by omega)) ?_
    refine ev_bind (refMore_ev sum l bs.1 bs.2 bb (by omega)) ?_
    simp only [if_true]
    refine ev_bind (Sum_ev l bb (by omega)) ?_
    refine ev_bind (refMore_ev 0 l (by omega) (by omega) bb (by omega)) ?_
    exact ev_eq (ev_some _) (by simp)

end Go.Proofs.Ytaiiegbhbadciaa.Pure
