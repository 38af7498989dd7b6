/- The row of the law VirtFaults: whatever the input, the call answers true, and the input reads as it did. No condition. -/
import Derived.Test.YtnidkgnillipgaaRows
import Derived.Test.YtnidkgnillipgaaPureVirtFaults
import Derived.WalkKit
import Derived.ProofKit
import Derived.OpenShut
import Derived.ShutString
import Derived.ChangeOld
import Derived.Below
import Derived.SizedLaws
import Derived.ChangeSame
import Derived.Carry
import Derived.Test.YtnidkgnillipgaaR
namespace Go.Proofs.Ytnidkgnillipgaa.virtFaultsRow
open Go.ChangeShapes Go.WideShapes Go.ChangeAt Go.RowKit Go.Proofs.Ytnidkgnillipgaa.R 
open Go.ChangeMaps (open_string shut_string)
set_option linter.unusedVariables false
set_option linter.unusedSimpArgs false
theorem own : ownKnob Try.prog.godebug = none := by kernel_rfl
theorem laidOut : laidOutB Try.prog = true := by kernel_rfl
set_option maxRecDepth 100000 in
set_option maxHeartbeats 1600000 in
theorem lifted (os : Os) (started : os.Started) (H : Type) (enc : TypeId × Value → H) :
    ReturnsInHanded {} Try.checked os 11 .any (Rows.virtFaultsSpec.pre6 enc Try.prog Try.f11 Rows.virtFaultsRow.domain false) (Rows.virtFaultsSpec.post enc Try.prog Try.f11 false true false false) := by
  refine returnsInHanded_of_change_sized (C := Try.checked) own started (by kernel_rfl) Try.func11
    (ChangeSpec.witness6 (enc := enc) (C := Try.checked) false ⟨#[], #[.agg #[.int .i64 0, .int .i64 0], .int .u64 0], []⟩ 8 (by kernel_rfl) (by kernel_rfl) (by kernel_rfl) (by kernel_rfl)) ?_
  intro W base args ds gs before hval0 hW hcnd hsz0 _
  have hsz : (DataW.weightsEach Try.prog (Try.f11.params.toList ++ Rows.virtFaultsSpec.plain.varTypes Try.prog) (ds ++ gs)).all (· ≤ reachBytes) = true := hsz0
  have hval : ∀ (j : Nat) t v, Try.f11.params[j]? = some t → args[j]? = some v → Value.okWide Try.prog W .any base t v := hval0
  have hW' := hW
  obtain ⟨p, q, hA0, hV, rfl, hfz, hnd⟩ := hW
  have hA : DataW.TrodAll enc Try.prog W 0 (fun _ => true) true Try.f11.params.toList args.toList ds p := hA0
  rw [Try.params11] at hA hval hsz
  obtain ⟨v0, vs0, d0, ds0, p0, q0, hargs, rfl, rfl, k0, r0⟩ := trodAll_cons hA
  obtain ⟨v1, vs1, d1, ds1, p1, q1, rfl, rfl, rfl, k1, r1⟩ := trodAll_cons r0
  obtain ⟨rfl, rfl, rfl⟩ := trodAll_nil r1
  obtain rfl : args = #[v0, v1] := by cases args; simp_all
  obtain ⟨rfl, rfl⟩ := trodVars_none hV
  have hlt0 : ∀ x ∈ p0, x.block < W.heap.size := fun x hx => hW'.lt x (by simp [hx])
  have hlt1 : ∀ x ∈ p1, x.block < W.heap.size := fun x hx => hW'.lt x (by simp [hx])
  have h0 := k0
  obtain ⟨cs0, rfl, hl0⟩ := okWide_struct Try.underlying51 (hval 0 51 v0 rfl rfl)
  obtain ⟨fu0, hf0⟩ := h0
  obtain ⟨cs0⟩ := cs0
  simp only [Value.cells] at hf0
  obtain ⟨n1_, hl3_, hg4_⟩ := struct_cells Try.underlying51 hf0
  rw [show Try.prog.cellsOf 51 = 2 by kernel_rfl] at hl3_
  obtain ⟨c5_, c6_, rfl⟩ := list2 hl3_
  obtain ⟨y8_, h7_⟩ := hg4_ 0 _ rfl
  replace h7_ : DataW.trod enc Try.prog W 0 (fun _ => true) true n1_ 3 (([c5_, c6_].drop 0).take (Try.prog.cellsOf 3)) = some y8_ := h7_
  rw [show Try.prog.cellsOf 3 = 1 by kernel_rfl] at h7_
  simp only [List.drop_succ_cons, List.drop_zero, List.take_succ_cons, List.take_zero] at h7_
  obtain ⟨k, rfl, bd_k⟩ := cell_int Try.underlying3 h7_
  have b_k := bd_i64 bd_k
  obtain ⟨y10_, h9_⟩ := hg4_ 1 _ rfl
  replace h9_ : DataW.trod enc Try.prog W 0 (fun _ => true) true n1_ 3 (([.int .i64 k, c6_].drop 1).take (Try.prog.cellsOf 3)) = some y10_ := h9_
  rw [show Try.prog.cellsOf 3 = 1 by kernel_rfl] at h9_
  simp only [List.drop_succ_cons, List.drop_zero, List.take_succ_cons, List.take_zero] at h9_
  obtain ⟨l, rfl, bd_l⟩ := cell_int Try.underlying3 h9_
  have b_l := bd_i64 bd_l
  have h1 := k1
  obtain ⟨x, rfl, bd_x⟩ := val_int Try.underlying24 (hval 1 24 v1 rfl rfl) h1
  have b_x := bd_u64 bd_x
  clear hA0 hval0 hsz0
  refine (PureVirtFaults.virtFaults_any k l x b_x.1 b_x.2 W).mono fun e W' ⟨he, bel⟩ => ?_
  subst he
  exact ⟨_, rfl, _, _, _, [], _, [], hW', trodAll_mk1 (shut_bool Try.underlying4 _), (trodAll_cons_mk (Below.trod laidOut (by kernel_rfl) (of_decide_eq_true (by kernel_rfl)) k0 bel hlt0) (trodAll_cons_mk (Below.trod laidOut (by kernel_rfl) (of_decide_eq_true (by kernel_rfl)) k1 bel hlt1) trodAll_mk0)), rfl, bel.frame _, fun h => by cases h⟩
theorem over : Rows.virtFaultsRow.holds Try.pinned (OpenSpec.ofChange Rows.virtFaultsSpec) :=
  OpenClaim.holds_of_wide 11 Try.f11 rfl rfl rfl rfl rfl rfl rfl ⟨rfl, rfl, rfl, rfl, rfl⟩ rfl rfl rfl rfl rfl (by kernel_rfl) Try.func11 (by kernel_rfl)
    (of_decide_eq_true (by kernel_rfl)) (by unfold Func.isWrapper; first | (rw [if_pos (by decide +kernel)]; kernel_rfl) | (rw [if_neg (by decide +kernel)]; exact ⟨rfl, rfl⟩))
    (fun os started H enc _ => lifted os started H enc)
end Go.Proofs.Ytnidkgnillipgaa.virtFaultsRow
namespace Go.Proofs.Ytnidkgnillipgaa
theorem virtFaults_holds : Rows.VirtFaultsSaid := virtFaultsRow.over
#print axioms virtFaults_holds
end Go.Proofs.Ytnidkgnillipgaa
