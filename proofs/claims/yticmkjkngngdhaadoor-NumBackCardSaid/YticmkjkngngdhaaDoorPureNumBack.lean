/- NumBack: numbers and literals come there and back; unlike ones have unlike texts. No condition. -/
import Derived.Test.YticmkjkngngdhaaDoorPCutNumBack
namespace Go.Proofs.YticmkjkngngdhaaDoor.Pure
open Go.Proofs.YticmkjkngngdhaaDoor Go.Proofs.YticmkjkngngdhaaDoor.QNumBack Go.Proofs.YticmkjkngngdhaaDoor.PNumBack Go.RowKit Go.Proofs.YticmkjkngngdhaaDoorW.PrintWords Go.Proofs.YticmkjkngngdhaaDoorW.PrintLast
theorem NumBack : ladderbacklaw04_NumBack.Pure := by
  intro t ht v hv w hw
  refine ⟨50, ?_⟩
  have hp : ∀ z, (Lit.int .i64 z).wf = true → num_Print.f z = some (printS z) := fun z hz => by unfold num_Print.f; rw [if_pos hz]
  obtain ⟨r, hr, _, h2⟩ := nparse_told (printS v) 50 (by omega)
  obtain rfl := h2 v hv rfl
  unfold ladderbacklaw04_NumBack.f
  rw [hp v hv]
  simp only [Option.bind_some]
  rw [hr]
  simp only [Option.bind_some, if_true]
  rw [hp w hw]
  simp only [Option.bind_some]
  have hinj : ((printS v).toList == (printS w).toList) = (v == w) := by
    by_cases e : v = w
    · subst e; simp
    · have hne : (printS v).toList ≠ (printS w).toList := by
        intro h
        rw [ByteArray.toList_eq, ByteArray.toList_eq] at h
        have h3 := h2 w hw (ByteArray.ext (Array.toList_inj.1 h)).symm
        simp only [Prod.mk.injEq, and_true] at h3
        exact e h3
      rw [beq_eq_false_iff_ne.2 hne, beq_eq_false_iff_ne.2 e]
  rw [hinj, bne_self_eq_false]
  simp only [ladderbacklaw04_NumBack.j0, Bool.false_eq_true, if_false]
  rw [nliteral t v hv 49 (by omega)]
  simp only [Option.bind_some]
  by_cases hi : inS t v = true
  · rw [show litS t v = ⟨(litL t v).toArray⟩ from rfl, nvalue_back t v hv hi 49 (by omega)]
    simp only [Option.bind_some, if_true]
    rw [toList_mk, if_neg (litL_ne t v hi), awake_num 49 (by omega)]
    rfl
  · have hl : litL t v = [] := by unfold litL; rw [if_neg hi]
    rw [show litS t v = ⟨(litL t v).toArray⟩ from rfl, hl]
    obtain ⟨r, hr, h3⟩ := nvalue_told [] (by simp) 49 (by omega)
    rw [hr]
    rcases h3 with rfl | ⟨t', v', _, h4, _, h5⟩
    · simp only [Option.bind_some]
      rw [toList_mk, if_pos rfl, if_neg (by simp), awake_num 49 (by omega)]
      rfl
    · exact absurd h5 (litL_ne t' v' h4)
end Go.Proofs.YticmkjkngngdhaaDoor.Pure
