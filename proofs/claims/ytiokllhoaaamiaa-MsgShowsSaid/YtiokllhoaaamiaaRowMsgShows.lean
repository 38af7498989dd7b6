/- The row of the law MsgShows: whatever the input, the call answers true, and the input reads as it did. No condition. -/
import Derived.Test.YtiokllhoaaamiaaRows
import Derived.Test.YtiokllhoaaamiaaQc
import Derived.Test.YtiokllhoaaamiaaRs
import Derived.WalkKit
import Derived.ProofKit
import Derived.OpenShut
import Derived.ShutString
import Derived.ChangeOld
import Derived.Below
import Derived.SizedLaws
import Derived.ChangeSame
import Derived.Carry
import Derived.Test.YtiokllhoaaamiaaR
namespace Go.Proofs.Ytiokllhoaaamiaa.msgShowsRow
open Go.ChangeShapes Go.WideShapes Go.ChangeAt Go.RowKit Go.Proofs.Ytiokllhoaaamiaa.R 
open Go.ChangeMaps (open_string shut_string)
set_option linter.unusedVariables false
set_option linter.unusedSimpArgs false
theorem own : ownKnob Try.prog.godebug = none := by kernel_rfl
theorem laidOut : laidOutB Try.prog = true := by kernel_rfl
set_option maxRecDepth 100000 in
set_option maxHeartbeats 1600000 in
theorem lifted (os : Os) (started : os.Started) (H : Type) (enc : TypeId × Value → H) :
    ReturnsInHanded {} Try.checked os 9 .any (Rows.msgShowsSpec.pre6 enc Try.prog Try.f9 Rows.msgShowsRow.domain false) (Rows.msgShowsSpec.post enc Try.prog Try.f9 false true false false) := by
  refine returnsInHanded_of_change_sized (C := Try.checked) own started (by kernel_rfl) Try.func9
    (ChangeSpec.witness6 (enc := enc) (C := Try.checked) false ⟨#[], #[.agg #[.int .u64 0, .int .i64 0, .slice none 0 0]], []⟩ 8 (by kernel_rfl) (by kernel_rfl) (by kernel_rfl) (by kernel_rfl)) ?_
  intro W base args ds gs before hval0 hW hcnd hsz0 _
  have hsz : (DataW.weightsEach Try.prog (Try.f9.params.toList ++ Rows.msgShowsSpec.plain.varTypes Try.prog) (ds ++ gs)).all (· ≤ reachBytes) = true := hsz0
  have hval : ∀ (j : Nat) t v, Try.f9.params[j]? = some t → args[j]? = some v → Value.okWide Try.prog W .any base t v := hval0
  have hW' := hW
  obtain ⟨p, q, hA0, hV, rfl, hfz, hnd⟩ := hW
  have hA : DataW.TrodAll enc Try.prog W 0 (fun _ => true) true Try.f9.params.toList args.toList ds p := hA0
  rw [Try.params9] at hA hval hsz
  obtain ⟨v0, vs0, d0, ds0, p0, q0, hargs, rfl, rfl, k0, r0⟩ := trodAll_cons hA
  obtain ⟨rfl, rfl, rfl⟩ := trodAll_nil r0
  obtain rfl : args = #[v0] := by cases args; simp_all
  obtain ⟨rfl, rfl⟩ := trodVars_none hV
  have hlt0 : ∀ x ∈ p0, x.block < W.heap.size := fun x hx => hW'.lt x (by simp [hx])
  have h0 := k0
  obtain ⟨cs0, rfl, hl0⟩ := okWide_struct Try.underlying33 (hval 0 33 v0 rfl rfl)
  obtain ⟨fu0, hf0⟩ := h0
  obtain ⟨cs0⟩ := cs0
  simp only [Value.cells] at hf0
  obtain ⟨n1_, hl3_, hg4_⟩ := struct_cells Try.underlying33 hf0
  rw [show Try.prog.cellsOf 33 = 3 by kernel_rfl] at hl3_
  obtain ⟨c5_, c6_, c7_, rfl⟩ := list3 hl3_
  obtain ⟨y9_, h8_⟩ := hg4_ 0 _ rfl
  replace h8_ : DataW.trod enc Try.prog W 0 (fun _ => true) true n1_ 31 (([c5_, c6_, c7_].drop 0).take (Try.prog.cellsOf 31)) = some y9_ := h8_
  rw [show Try.prog.cellsOf 31 = 1 by kernel_rfl] at h8_
  simp only [List.drop_succ_cons, List.drop_zero, List.take_succ_cons, List.take_zero] at h8_
  obtain ⟨num, rfl, bd_num⟩ := cell_int Try.underlying31 h8_
  have b_num := bd_u64 bd_num
  obtain ⟨y11_, h10_⟩ := hg4_ 1 _ rfl
  replace h10_ : DataW.trod enc Try.prog W 0 (fun _ => true) true n1_ 3 (([.int .u64 num, c6_, c7_].drop 1).take (Try.prog.cellsOf 3)) = some y11_ := h10_
  rw [show Try.prog.cellsOf 3 = 1 by kernel_rfl] at h10_
  simp only [List.drop_succ_cons, List.drop_zero, List.take_succ_cons, List.take_zero] at h10_
  obtain ⟨l, rfl, bd_l⟩ := cell_int Try.underlying3 h10_
  have b_l := bd_i64 bd_l
  obtain ⟨y13_, h12_⟩ := hg4_ 2 _ rfl
  replace h12_ : DataW.trod enc Try.prog W 0 (fun _ => true) true n1_ 30 (([.int .u64 num, .int .i64 l, c7_].drop 2).take (Try.prog.cellsOf 30)) = some y13_ := h12_
  rw [show Try.prog.cellsOf 30 = 1 by kernel_rfl] at h12_
  simp only [List.drop_succ_cons, List.drop_zero, List.take_succ_cons, List.take_zero] at h12_
  obtain ⟨xs, A_xs, wf_xs⟩ := Go.Proofs.Ytiokllhoaaamiaa.Rs.cell_ints Try.underlying30 Try.underlying31 (by kernel_rfl) h12_
  have b_xs := fun x hx => bd_u64 (wf_xs x hx)
  clear hA0 hval0 hsz0
  refine (Qc.law_any num l c7_ xs W b_num.1 b_num.2 b_l.2 A_xs b_xs).mono fun e W' ⟨he, bel⟩ => ?_
  subst he
  exact ⟨_, rfl, _, _, _, [], _, [], hW', trodAll_mk1 (shut_bool Try.underlying4 _), (trodAll_cons_mk (Below.trod laidOut (by kernel_rfl) (of_decide_eq_true (by kernel_rfl)) k0 bel hlt0) trodAll_mk0), rfl, bel.frame _, fun h => by cases h⟩
theorem over : Rows.msgShowsRow.holds Try.pinned (OpenSpec.ofChange Rows.msgShowsSpec) :=
  OpenClaim.holds_of_wide 9 Try.f9 rfl rfl rfl rfl rfl rfl rfl ⟨rfl, rfl, rfl, rfl, rfl⟩ rfl rfl rfl rfl rfl (by kernel_rfl) Try.func9 (by kernel_rfl)
    (of_decide_eq_true (by kernel_rfl)) (by unfold Func.isWrapper; first | (rw [if_pos (by decide +kernel)]; kernel_rfl) | (rw [if_neg (by decide +kernel)]; exact ⟨rfl, rfl⟩))
    (fun os started H enc _ => lifted os started H enc)
end Go.Proofs.Ytiokllhoaaamiaa.msgShowsRow
namespace Go.Proofs.Ytiokllhoaaamiaa
theorem msgShows_holds : Rows.MsgShowsSaid := msgShowsRow.over
#print axioms msgShows_holds
end Go.Proofs.Ytiokllhoaaamiaa
