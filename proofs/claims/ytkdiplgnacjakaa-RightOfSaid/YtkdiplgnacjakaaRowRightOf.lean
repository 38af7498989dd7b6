/- The row of the law RightOf: whatever the input, the call answers true, and the input reads as it did. No condition. -/
import Derived.Test.YtkdiplgnacjakaaRows
import Derived.Test.YtkdiplgnacjakaaRg
import Derived.WalkKit
import Derived.ProofKit
import Derived.OpenShut
import Derived.ShutString
import Derived.ChangeOld
import Derived.Below
import Derived.SizedLaws
import Derived.ChangeSame
import Derived.Carry
import Derived.Test.YtkdiplgnacjakaaR
namespace Go.Proofs.Ytkdiplgnacjakaa.rightOfRow
open Go.ChangeShapes Go.WideShapes Go.ChangeAt Go.RowKit Go.Proofs.Ytkdiplgnacjakaa.R 
open Go.ChangeMaps (open_string shut_string)
set_option linter.unusedVariables false
set_option linter.unusedSimpArgs false
theorem own : ownKnob Try.prog.godebug = none := by kernel_rfl
theorem laidOut : laidOutB Try.prog = true := by kernel_rfl
set_option maxRecDepth 100000 in
set_option maxHeartbeats 1600000 in
theorem lifted (os : Os) (started : os.Started) (H : Type) (enc : TypeId × Value → H) :
    ReturnsInHanded {} Try.checked os 4 .any (Rows.rightOfSpec.pre6 enc Try.prog Try.f4 Rows.rightOfRow.domain false) (Rows.rightOfSpec.post enc Try.prog Try.f4 false true false false) := by
  refine returnsInHanded_of_change_sized (C := Try.checked) own started (by kernel_rfl) Try.func4
    (ChangeSpec.witness6 (enc := enc) (C := Try.checked) false ⟨#[], #[.agg #[.int .i64 0, .int .u64 0, .bool false, .bool false, .bool false, .bool false, .int .i64 0]], []⟩ 8 (by kernel_rfl) (by kernel_rfl) (by kernel_rfl) (by kernel_rfl)) ?_
  intro W base args ds gs before hval0 hW hcnd hsz0 _
  have hsz : (DataW.weightsEach Try.prog (Try.f4.params.toList ++ Rows.rightOfSpec.plain.varTypes Try.prog) (ds ++ gs)).all (· ≤ reachBytes) = true := hsz0
  have hval : ∀ (j : Nat) t v, Try.f4.params[j]? = some t → args[j]? = some v → Value.okWide Try.prog W .any base t v := hval0
  have hW' := hW
  obtain ⟨p, q, hA0, hV, rfl, hfz, hnd⟩ := hW
  have hA : DataW.TrodAll enc Try.prog W 0 (fun _ => true) true Try.f4.params.toList args.toList ds p := hA0
  rw [Try.params4] at hA hval hsz
  obtain ⟨v0, vs0, d0, ds0, p0, q0, hargs, rfl, rfl, k0, r0⟩ := trodAll_cons hA
  obtain ⟨rfl, rfl, rfl⟩ := trodAll_nil r0
  obtain rfl : args = #[v0] := by cases args; simp_all
  obtain ⟨rfl, rfl⟩ := trodVars_none hV
  have hlt0 : ∀ x ∈ p0, x.block < W.heap.size := fun x hx => hW'.lt x (by simp [hx])
  have h0 := k0
  obtain ⟨cs0, rfl, hl0⟩ := okWide_struct Try.underlying31 (hval 0 31 v0 rfl rfl)
  obtain ⟨fu0, hf0⟩ := h0
  obtain ⟨cs0⟩ := cs0
  simp only [Value.cells] at hf0
  obtain ⟨n1_, hl3_, hg4_⟩ := struct_cells Try.underlying31 hf0
  rw [show Try.prog.cellsOf 31 = 7 by kernel_rfl] at hl3_
  obtain ⟨c5_, c6_, c7_, c8_, c9_, c10_, c11_, rfl⟩ := list7 hl3_
  obtain ⟨y13_, h12_⟩ := hg4_ 0 _ rfl
  replace h12_ : DataW.trod enc Try.prog W 0 (fun _ => true) true n1_ 3 (([c5_, c6_, c7_, c8_, c9_, c10_, c11_].drop 0).take (Try.prog.cellsOf 3)) = some y13_ := h12_
  rw [show Try.prog.cellsOf 3 = 1 by kernel_rfl] at h12_
  simp only [List.drop_succ_cons, List.drop_zero, List.take_succ_cons, List.take_zero] at h12_
  obtain ⟨kind, rfl, bd_kind⟩ := cell_int Try.underlying3 h12_
  have b_kind := bd_i64 bd_kind
  obtain ⟨y15_, h14_⟩ := hg4_ 1 _ rfl
  replace h14_ : DataW.trod enc Try.prog W 0 (fun _ => true) true n1_ 29 (([.int .i64 kind, c6_, c7_, c8_, c9_, c10_, c11_].drop 1).take (Try.prog.cellsOf 29)) = some y15_ := h14_
  rw [show Try.prog.cellsOf 29 = 1 by kernel_rfl] at h14_
  simp only [List.drop_succ_cons, List.drop_zero, List.take_succ_cons, List.take_zero] at h14_
  obtain ⟨out, rfl, bd_out⟩ := cell_int Try.underlying29 h14_
  have b_out := bd_u64 bd_out
  obtain ⟨y17_, h16_⟩ := hg4_ 2 _ rfl
  replace h16_ : DataW.trod enc Try.prog W 0 (fun _ => true) true n1_ 4 (([.int .i64 kind, .int .u64 out, c7_, c8_, c9_, c10_, c11_].drop 2).take (Try.prog.cellsOf 4)) = some y17_ := h16_
  rw [show Try.prog.cellsOf 4 = 1 by kernel_rfl] at h16_
  simp only [List.drop_succ_cons, List.drop_zero, List.take_succ_cons, List.take_zero] at h16_
  obtain ⟨us, rfl⟩ := cell_bool Try.underlying4 h16_
  obtain ⟨y19_, h18_⟩ := hg4_ 3 _ rfl
  replace h18_ : DataW.trod enc Try.prog W 0 (fun _ => true) true n1_ 4 (([.int .i64 kind, .int .u64 out, .bool us, c8_, c9_, c10_, c11_].drop 3).take (Try.prog.cellsOf 4)) = some y19_ := h18_
  rw [show Try.prog.cellsOf 4 = 1 by kernel_rfl] at h18_
  simp only [List.drop_succ_cons, List.drop_zero, List.take_succ_cons, List.take_zero] at h18_
  obtain ⟨wr, rfl⟩ := cell_bool Try.underlying4 h18_
  obtain ⟨y21_, h20_⟩ := hg4_ 4 _ rfl
  replace h20_ : DataW.trod enc Try.prog W 0 (fun _ => true) true n1_ 4 (([.int .i64 kind, .int .u64 out, .bool us, .bool wr, c9_, c10_, c11_].drop 4).take (Try.prog.cellsOf 4)) = some y21_ := h20_
  rw [show Try.prog.cellsOf 4 = 1 by kernel_rfl] at h20_
  simp only [List.drop_succ_cons, List.drop_zero, List.take_succ_cons, List.take_zero] at h20_
  obtain ⟨ex, rfl⟩ := cell_bool Try.underlying4 h20_
  obtain ⟨y23_, h22_⟩ := hg4_ 5 _ rfl
  replace h22_ : DataW.trod enc Try.prog W 0 (fun _ => true) true n1_ 4 (([.int .i64 kind, .int .u64 out, .bool us, .bool wr, .bool ex, c10_, c11_].drop 5).take (Try.prog.cellsOf 4)) = some y23_ := h22_
  rw [show Try.prog.cellsOf 4 = 1 by kernel_rfl] at h22_
  simp only [List.drop_succ_cons, List.drop_zero, List.take_succ_cons, List.take_zero] at h22_
  obtain ⟨ud, rfl⟩ := cell_bool Try.underlying4 h22_
  obtain ⟨y25_, h24_⟩ := hg4_ 6 _ rfl
  replace h24_ : DataW.trod enc Try.prog W 0 (fun _ => true) true n1_ 3 (([.int .i64 kind, .int .u64 out, .bool us, .bool wr, .bool ex, .bool ud, c11_].drop 6).take (Try.prog.cellsOf 3)) = some y25_ := h24_
  rw [show Try.prog.cellsOf 3 = 1 by kernel_rfl] at h24_
  simp only [List.drop_succ_cons, List.drop_zero, List.take_succ_cons, List.take_zero] at h24_
  obtain ⟨attr, rfl, bd_attr⟩ := cell_int Try.underlying3 h24_
  have b_attr := bd_i64 bd_attr
  clear hA0 hval0 hsz0
  refine (Rg.law_any kind out attr us wr ex ud W).mono fun e W' ⟨he, bel⟩ => ?_
  subst he
  exact ⟨_, rfl, _, _, _, [], _, [], hW', trodAll_mk1 (shut_bool Try.underlying4 _), (trodAll_cons_mk (Below.trod laidOut (by kernel_rfl) (of_decide_eq_true (by kernel_rfl)) k0 bel hlt0) trodAll_mk0), rfl, bel.frame _, fun h => by cases h⟩
theorem over : Rows.rightOfRow.holds Try.pinned (OpenSpec.ofChange Rows.rightOfSpec) :=
  OpenClaim.holds_of_wide 4 Try.f4 rfl rfl rfl rfl rfl rfl rfl ⟨rfl, rfl, rfl, rfl, rfl⟩ rfl rfl rfl rfl rfl (by kernel_rfl) Try.func4 (by kernel_rfl)
    (of_decide_eq_true (by kernel_rfl)) (by unfold Func.isWrapper; first | (rw [if_pos (by decide +kernel)]; kernel_rfl) | (rw [if_neg (by decide +kernel)]; exact ⟨rfl, rfl⟩))
    (fun os started H enc _ => lifted os started H enc)
end Go.Proofs.Ytkdiplgnacjakaa.rightOfRow
namespace Go.Proofs.Ytkdiplgnacjakaa
theorem rightOf_holds : Rows.RightOfSaid := rightOfRow.over
#print axioms rightOf_holds
end Go.Proofs.Ytkdiplgnacjakaa
