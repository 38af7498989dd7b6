/- The row of the law DescEncodes: whatever the input, the call answers true, and the input reads as it did. No condition. -/
import Derived.Test.YtkdiplgnacjakaaRows
import Derived.Test.YtkdiplgnacjakaaEn
import Derived.WalkKit
import Derived.ProofKit
import Derived.OpenShut
import Derived.ShutString
import Derived.ChangeOld
import Derived.Below
import Derived.SizedLaws
import Derived.ChangeSame
import Derived.Carry
import Derived.Test.YtkdiplgnacjakaaR
namespace Go.Proofs.Ytkdiplgnacjakaa.descEncodesRow
open Go.ChangeShapes Go.WideShapes Go.ChangeAt Go.RowKit Go.Proofs.Ytkdiplgnacjakaa.R 
open Go.ChangeMaps (open_string shut_string)
set_option linter.unusedVariables false
set_option linter.unusedSimpArgs false
theorem own : ownKnob Try.prog.godebug = none := by kernel_rfl
theorem laidOut : laidOutB Try.prog = true := by kernel_rfl
set_option maxRecDepth 100000 in
set_option maxHeartbeats 1600000 in
theorem lifted (os : Os) (started : os.Started) (H : Type) (enc : TypeId × Value → H) :
    ReturnsInHanded {} Try.checked os 7 .any (Rows.descEncodesSpec.pre6 enc Try.prog Try.f7 Rows.descEncodesRow.domain false) (Rows.descEncodesSpec.post enc Try.prog Try.f7 false true false false) := by
  refine returnsInHanded_of_change_sized (C := Try.checked) own started (by kernel_rfl) Try.func7
    (ChangeSpec.witness6 (enc := enc) (C := Try.checked) false ⟨#[], #[.int .i64 0, .agg #[.int .i64 0, .int .u64 0, .bool false, .bool false, .bool false, .bool false, .int .i64 0]], []⟩ 8 (by kernel_rfl) (by kernel_rfl) (by kernel_rfl) (by kernel_rfl)) ?_
  intro W base args ds gs before hval0 hW hcnd hsz0 _
  have hsz : (DataW.weightsEach Try.prog (Try.f7.params.toList ++ Rows.descEncodesSpec.plain.varTypes Try.prog) (ds ++ gs)).all (· ≤ reachBytes) = true := hsz0
  have hval : ∀ (j : Nat) t v, Try.f7.params[j]? = some t → args[j]? = some v → Value.okWide Try.prog W .any base t v := hval0
  have hW' := hW
  obtain ⟨p, q, hA0, hV, rfl, hfz, hnd⟩ := hW
  have hA : DataW.TrodAll enc Try.prog W 0 (fun _ => true) true Try.f7.params.toList args.toList ds p := hA0
  rw [Try.params7] at hA hval hsz
  obtain ⟨v0, vs0, d0, ds0, p0, q0, hargs, rfl, rfl, k0, r0⟩ := trodAll_cons hA
  obtain ⟨v1, vs1, d1, ds1, p1, q1, rfl, rfl, rfl, k1, r1⟩ := trodAll_cons r0
  obtain ⟨rfl, rfl, rfl⟩ := trodAll_nil r1
  obtain rfl : args = #[v0, v1] := by cases args; simp_all
  obtain ⟨rfl, rfl⟩ := trodVars_none hV
  have hlt0 : ∀ x ∈ p0, x.block < W.heap.size := fun x hx => hW'.lt x (by simp [hx])
  have hlt1 : ∀ x ∈ p1, x.block < W.heap.size := fun x hx => hW'.lt x (by simp [hx])
  have h0 := k0
  obtain ⟨level, rfl, bd_level⟩ := val_int Try.underlying3 (hval 0 3 v0 rfl rfl) h0
  have b_level := bd_i64 bd_level
  have h1 := k1
  obtain ⟨cs1, rfl, hl1⟩ := okWide_struct Try.underlying31 (hval 1 31 v1 rfl rfl)
  obtain ⟨fu1, hf1⟩ := h1
  obtain ⟨cs1⟩ := cs1
  simp only [Value.cells] at hf1
  obtain ⟨n1_, hl3_, hg4_⟩ := struct_cells Try.underlying31 hf1
  rw [show Try.prog.cellsOf 31 = 7 by kernel_rfl] at hl3_
  obtain ⟨c5_, c6_, c7_, c8_, c9_, c10_, c11_, rfl⟩ := list7 hl3_
  obtain ⟨y13_, h12_⟩ := hg4_ 0 _ rfl
  replace h12_ : DataW.trod enc Try.prog W 0 (fun _ => true) true n1_ 3 (([c5_, c6_, c7_, c8_, c9_, c10_, c11_].drop 0).take (Try.prog.cellsOf 3)) = some y13_ := h12_
  rw [show Try.prog.cellsOf 3 = 1 by kernel_rfl] at h12_
  simp only [List.drop_succ_cons, List.drop_zero, List.take_succ_cons, List.take_zero] at h12_
  obtain ⟨kind, rfl, bd_kind⟩ := cell_int Try.underlying3 h12_
  have b_kind := bd_i64 bd_kind
  obtain ⟨y15_, h14_⟩ := hg4_ 1 _ rfl
  replace h14_ : DataW.trod enc Try.prog W 0 (fun _ => true) true n1_ 29 (([.int .i64 kind, c6_, c7_, c8_, c9_, c10_, c11_].drop 1).take (Try.prog.cellsOf 29)) = some y15_ := h14_
  rw [show Try.prog.cellsOf 29 = 1 by kernel_rfl] at h14_
  simp only [List.drop_succ_cons, List.drop_zero, List.take_succ_cons, List.take_zero] at h14_
  obtain ⟨out, rfl, bd_out⟩ := cell_int Try.underlying29 h14_
  have b_out := bd_u64 bd_out
  obtain ⟨y17_, h16_⟩ := hg4_ 2 _ rfl
  replace h16_ : DataW.trod enc Try.prog W 0 (fun _ => true) true n1_ 4 (([.int .i64 kind, .int .u64 out, c7_, c8_, c9_, c10_, c11_].drop 2).take (Try.prog.cellsOf 4)) = some y17_ := h16_
  rw [show Try.prog.cellsOf 4 = 1 by kernel_rfl] at h16_
  simp only [List.drop_succ_cons, List.drop_zero, List.take_succ_cons, List.take_zero] at h16_
  obtain ⟨us, rfl⟩ := cell_bool Try.underlying4 h16_
  obtain ⟨y19_, h18_⟩ := hg4_ 3 _ rfl
  replace h18_ : DataW.trod enc Try.prog W 0 (fun _ => true) true n1_ 4 (([.int .i64 kind, .int .u64 out, .bool us, c8_, c9_, c10_, c11_].drop 3).take (Try.prog.cellsOf 4)) = some y19_ := h18_
  rw [show Try.prog.cellsOf 4 = 1 by kernel_rfl] at h18_
  simp only [List.drop_succ_cons, List.drop_zero, List.take_succ_cons, List.take_zero] at h18_
  obtain ⟨wr, rfl⟩ := cell_bool Try.underlying4 h18_
  obtain ⟨y21_, h20_⟩ := hg4_ 4 _ rfl
  replace h20_ : DataW.trod enc Try.prog W 0 (fun _ => true) true n1_ 4 (([.int .i64 kind, .int .u64 out, .bool us, .bool wr, c9_, c10_, c11_].drop 4).take (Try.prog.cellsOf 4)) = some y21_ := h20_
  rw [show Try.prog.cellsOf 4 = 1 by kernel_rfl] at h20_
  simp only [List.drop_succ_cons, List.drop_zero, List.take_succ_cons, List.take_zero] at h20_
  obtain ⟨ex, rfl⟩ := cell_bool Try.underlying4 h20_
  obtain ⟨y23_, h22_⟩ := hg4_ 5 _ rfl
  replace h22_ : DataW.trod enc Try.prog W 0 (fun _ => true) true n1_ 4 (([.int .i64 kind, .int .u64 out, .bool us, .bool wr, .bool ex, c10_, c11_].drop 5).take (Try.prog.cellsOf 4)) = some y23_ := h22_
  rw [show Try.prog.cellsOf 4 = 1 by kernel_rfl] at h22_
  simp only [List.drop_succ_cons, List.drop_zero, List.take_succ_cons, List.take_zero] at h22_
  obtain ⟨ud, rfl⟩ := cell_bool Try.underlying4 h22_
  obtain ⟨y25_, h24_⟩ := hg4_ 6 _ rfl
  replace h24_ : DataW.trod enc Try.prog W 0 (fun _ => true) true n1_ 3 (([.int .i64 kind, .int .u64 out, .bool us, .bool wr, .bool ex, .bool ud, c11_].drop 6).take (Try.prog.cellsOf 3)) = some y25_ := h24_
  rw [show Try.prog.cellsOf 3 = 1 by kernel_rfl] at h24_
  simp only [List.drop_succ_cons, List.drop_zero, List.take_succ_cons, List.take_zero] at h24_
  obtain ⟨attr, rfl, bd_attr⟩ := cell_int Try.underlying3 h24_
  have b_attr := bd_i64 bd_attr
  clear hA0 hval0 hsz0
  refine (En.encodes_any level kind out attr us wr ex ud b_out.1 b_out.2 W).mono fun e W' ⟨he, bel⟩ => ?_
  subst he
  exact ⟨_, rfl, _, _, _, [], _, [], hW', trodAll_mk1 (shut_bool Try.underlying4 _), (trodAll_cons_mk (Below.trod laidOut (by kernel_rfl) (of_decide_eq_true (by kernel_rfl)) k0 bel hlt0) (trodAll_cons_mk (Below.trod laidOut (by kernel_rfl) (of_decide_eq_true (by kernel_rfl)) k1 bel hlt1) trodAll_mk0)), rfl, bel.frame _, fun h => by cases h⟩
theorem over : Rows.descEncodesRow.holds Try.pinned (OpenSpec.ofChange Rows.descEncodesSpec) :=
  OpenClaim.holds_of_wide 7 Try.f7 rfl rfl rfl rfl rfl rfl rfl ⟨rfl, rfl, rfl, rfl, rfl⟩ rfl rfl rfl rfl rfl (by kernel_rfl) Try.func7 (by kernel_rfl)
    (of_decide_eq_true (by kernel_rfl)) (by unfold Func.isWrapper; first | (rw [if_pos (by decide +kernel)]; kernel_rfl) | (rw [if_neg (by decide +kernel)]; exact ⟨rfl, rfl⟩))
    (fun os started H enc _ => lifted os started H enc)
end Go.Proofs.Ytkdiplgnacjakaa.descEncodesRow
namespace Go.Proofs.Ytkdiplgnacjakaa
theorem descEncodes_holds : Rows.DescEncodesSaid := descEncodesRow.over
#print axioms descEncodes_holds
end Go.Proofs.Ytkdiplgnacjakaa
