/- The row of the law TlbMatches: whatever the input, the call answers true, and the input reads as it did. No condition. -/
import Derived.Test.YtccbpcdepgnmgaaRows
import Derived.Test.YtccbpcdepgnmgaaTm
import Derived.WalkKit
import Derived.ProofKit
import Derived.OpenShut
import Derived.ShutString
import Derived.ChangeOld
import Derived.Below
import Derived.SizedLaws
import Derived.ChangeSame
import Derived.Carry
import Derived.Test.YtccbpcdepgnmgaaR
namespace Go.Proofs.Ytccbpcdepgnmgaa.tlbMatchesRow
open Go.ChangeShapes Go.WideShapes Go.ChangeAt Go.RowKit Go.Proofs.Ytccbpcdepgnmgaa.R 
open Go.ChangeMaps (open_string shut_string)
set_option linter.unusedVariables false
set_option linter.unusedSimpArgs false
theorem own : ownKnob Try.prog.godebug = none := by kernel_rfl
theorem laidOut : laidOutB Try.prog = true := by kernel_rfl
set_option maxRecDepth 100000 in
set_option maxHeartbeats 1600000 in
theorem lifted (os : Os) (started : os.Started) (H : Type) (enc : TypeId × Value → H) :
    ReturnsInHanded {} Try.checked os 3 .any (Rows.tlbMatchesSpec.pre6 enc Try.prog Try.f3 Rows.tlbMatchesRow.domain false) (Rows.tlbMatchesSpec.post enc Try.prog Try.f3 false true false false) := by
  refine returnsInHanded_of_change_sized (C := Try.checked) own started (by kernel_rfl) Try.func3
    (ChangeSpec.witness6 (enc := enc) (C := Try.checked) false ⟨#[], #[.agg #[.int .i64 0, .int .u64 0, .int .i64 0, .int .i64 0, .int .u64 0, .bool false, .bool false, .bool false, .bool false, .int .i64 0], .int .i64 0, .int .u64 0], []⟩ 8 (by kernel_rfl) (by kernel_rfl) (by kernel_rfl) (by kernel_rfl)) ?_
  intro W base args ds gs before hval0 hW hcnd hsz0 _
  have hsz : (DataW.weightsEach Try.prog (Try.f3.params.toList ++ Rows.tlbMatchesSpec.plain.varTypes Try.prog) (ds ++ gs)).all (· ≤ reachBytes) = true := hsz0
  have hval : ∀ (j : Nat) t v, Try.f3.params[j]? = some t → args[j]? = some v → Value.okWide Try.prog W .any base t v := hval0
  have hW' := hW
  obtain ⟨p, q, hA0, hV, rfl, hfz, hnd⟩ := hW
  have hA : DataW.TrodAll enc Try.prog W 0 (fun _ => true) true Try.f3.params.toList args.toList ds p := hA0
  rw [Try.params3] at hA hval hsz
  obtain ⟨v0, vs0, d0, ds0, p0, q0, hargs, rfl, rfl, k0, r0⟩ := trodAll_cons hA
  obtain ⟨v1, vs1, d1, ds1, p1, q1, rfl, rfl, rfl, k1, r1⟩ := trodAll_cons r0
  obtain ⟨v2, vs2, d2, ds2, p2, q2, rfl, rfl, rfl, k2, r2⟩ := trodAll_cons r1
  obtain ⟨rfl, rfl, rfl⟩ := trodAll_nil r2
  obtain rfl : args = #[v0, v1, v2] := by cases args; simp_all
  obtain ⟨rfl, rfl⟩ := trodVars_none hV
  have hlt0 : ∀ x ∈ p0, x.block < W.heap.size := fun x hx => hW'.lt x (by simp [hx])
  have hlt1 : ∀ x ∈ p1, x.block < W.heap.size := fun x hx => hW'.lt x (by simp [hx])
  have hlt2 : ∀ x ∈ p2, x.block < W.heap.size := fun x hx => hW'.lt x (by simp [hx])
  have h0 := k0
  obtain ⟨cs0, rfl, hl0⟩ := okWide_struct Try.underlying26 (hval 0 26 v0 rfl rfl)
  obtain ⟨fu0, hf0⟩ := h0
  obtain ⟨cs0⟩ := cs0
  simp only [Value.cells] at hf0
  obtain ⟨n1_, hl3_, hg4_⟩ := struct_cells Try.underlying26 hf0
  rw [show Try.prog.cellsOf 26 = 10 by kernel_rfl] at hl3_
  obtain ⟨c5_, c6_, c7_, c8_, c9_, c10_, c11_, c12_, c13_, c14_, rfl⟩ := list10 hl3_
  obtain ⟨y16_, h15_⟩ := hg4_ 0 _ rfl
  replace h15_ : DataW.trod enc Try.prog W 0 (fun _ => true) true n1_ 3 (([c5_, c6_, c7_, c8_, c9_, c10_, c11_, c12_, c13_, c14_].drop 0).take (Try.prog.cellsOf 3)) = some y16_ := h15_
  rw [show Try.prog.cellsOf 3 = 1 by kernel_rfl] at h15_
  simp only [List.drop_succ_cons, List.drop_zero, List.take_succ_cons, List.take_zero] at h15_
  obtain ⟨ea, rfl, bd_ea⟩ := cell_int Try.underlying3 h15_
  have b_ea := bd_i64 bd_ea
  obtain ⟨y18_, h17_⟩ := hg4_ 1 _ rfl
  replace h17_ : DataW.trod enc Try.prog W 0 (fun _ => true) true n1_ 22 (([.int .i64 ea, c6_, c7_, c8_, c9_, c10_, c11_, c12_, c13_, c14_].drop 1).take (Try.prog.cellsOf 22)) = some y18_ := h17_
  rw [show Try.prog.cellsOf 22 = 1 by kernel_rfl] at h17_
  simp only [List.drop_succ_cons, List.drop_zero, List.take_succ_cons, List.take_zero] at h17_
  obtain ⟨ev, rfl, bd_ev⟩ := cell_int Try.underlying22 h17_
  have b_ev := bd_u64 bd_ev
  obtain ⟨y20_, h19_⟩ := hg4_ 2 _ rfl
  replace h19_ : DataW.trod enc Try.prog W 0 (fun _ => true) true n1_ 3 (([.int .i64 ea, .int .u64 ev, c7_, c8_, c9_, c10_, c11_, c12_, c13_, c14_].drop 2).take (Try.prog.cellsOf 3)) = some y20_ := h19_
  rw [show Try.prog.cellsOf 3 = 1 by kernel_rfl] at h19_
  simp only [List.drop_succ_cons, List.drop_zero, List.take_succ_cons, List.take_zero] at h19_
  obtain ⟨el, rfl, bd_el⟩ := cell_int Try.underlying3 h19_
  have b_el := bd_i64 bd_el
  obtain ⟨y22_, h21_⟩ := hg4_ 3 _ rfl
  replace h21_ : DataW.trod enc Try.prog W 0 (fun _ => true) true n1_ 24 (([.int .i64 ea, .int .u64 ev, .int .i64 el, c8_, c9_, c10_, c11_, c12_, c13_, c14_].drop 3).take (Try.prog.cellsOf 24)) = some y22_ := h21_
  rw [show Try.prog.cellsOf 24 = 7 by kernel_rfl] at h21_
  simp only [List.drop_succ_cons, List.drop_zero, List.take_succ_cons, List.take_zero] at h21_
  obtain ⟨n23_, hl24_, hg25_⟩ := struct_cells Try.underlying24 h21_
  obtain ⟨y27_, h26_⟩ := hg25_ 0 _ rfl
  replace h26_ : DataW.trod enc Try.prog W 0 (fun _ => true) true n23_ 3 (([c8_, c9_, c10_, c11_, c12_, c13_, c14_].drop 0).take (Try.prog.cellsOf 3)) = some y27_ := h26_
  rw [show Try.prog.cellsOf 3 = 1 by kernel_rfl] at h26_
  simp only [List.drop_succ_cons, List.drop_zero, List.take_succ_cons, List.take_zero] at h26_
  obtain ⟨ek, rfl, bd_ek⟩ := cell_int Try.underlying3 h26_
  have b_ek := bd_i64 bd_ek
  obtain ⟨y29_, h28_⟩ := hg25_ 1 _ rfl
  replace h28_ : DataW.trod enc Try.prog W 0 (fun _ => true) true n23_ 22 (([.int .i64 ek, c9_, c10_, c11_, c12_, c13_, c14_].drop 1).take (Try.prog.cellsOf 22)) = some y29_ := h28_
  rw [show Try.prog.cellsOf 22 = 1 by kernel_rfl] at h28_
  simp only [List.drop_succ_cons, List.drop_zero, List.take_succ_cons, List.take_zero] at h28_
  obtain ⟨eo, rfl, bd_eo⟩ := cell_int Try.underlying22 h28_
  have b_eo := bd_u64 bd_eo
  obtain ⟨y31_, h30_⟩ := hg25_ 2 _ rfl
  replace h30_ : DataW.trod enc Try.prog W 0 (fun _ => true) true n23_ 4 (([.int .i64 ek, .int .u64 eo, c10_, c11_, c12_, c13_, c14_].drop 2).take (Try.prog.cellsOf 4)) = some y31_ := h30_
  rw [show Try.prog.cellsOf 4 = 1 by kernel_rfl] at h30_
  simp only [List.drop_succ_cons, List.drop_zero, List.take_succ_cons, List.take_zero] at h30_
  obtain ⟨us, rfl⟩ := cell_bool Try.underlying4 h30_
  obtain ⟨y33_, h32_⟩ := hg25_ 3 _ rfl
  replace h32_ : DataW.trod enc Try.prog W 0 (fun _ => true) true n23_ 4 (([.int .i64 ek, .int .u64 eo, .bool us, c11_, c12_, c13_, c14_].drop 3).take (Try.prog.cellsOf 4)) = some y33_ := h32_
  rw [show Try.prog.cellsOf 4 = 1 by kernel_rfl] at h32_
  simp only [List.drop_succ_cons, List.drop_zero, List.take_succ_cons, List.take_zero] at h32_
  obtain ⟨wr, rfl⟩ := cell_bool Try.underlying4 h32_
  obtain ⟨y35_, h34_⟩ := hg25_ 4 _ rfl
  replace h34_ : DataW.trod enc Try.prog W 0 (fun _ => true) true n23_ 4 (([.int .i64 ek, .int .u64 eo, .bool us, .bool wr, c12_, c13_, c14_].drop 4).take (Try.prog.cellsOf 4)) = some y35_ := h34_
  rw [show Try.prog.cellsOf 4 = 1 by kernel_rfl] at h34_
  simp only [List.drop_succ_cons, List.drop_zero, List.take_succ_cons, List.take_zero] at h34_
  obtain ⟨ex, rfl⟩ := cell_bool Try.underlying4 h34_
  obtain ⟨y37_, h36_⟩ := hg25_ 5 _ rfl
  replace h36_ : DataW.trod enc Try.prog W 0 (fun _ => true) true n23_ 4 (([.int .i64 ek, .int .u64 eo, .bool us, .bool wr, .bool ex, c13_, c14_].drop 5).take (Try.prog.cellsOf 4)) = some y37_ := h36_
  rw [show Try.prog.cellsOf 4 = 1 by kernel_rfl] at h36_
  simp only [List.drop_succ_cons, List.drop_zero, List.take_succ_cons, List.take_zero] at h36_
  obtain ⟨ud, rfl⟩ := cell_bool Try.underlying4 h36_
  obtain ⟨y39_, h38_⟩ := hg25_ 6 _ rfl
  replace h38_ : DataW.trod enc Try.prog W 0 (fun _ => true) true n23_ 3 (([.int .i64 ek, .int .u64 eo, .bool us, .bool wr, .bool ex, .bool ud, c14_].drop 6).take (Try.prog.cellsOf 3)) = some y39_ := h38_
  rw [show Try.prog.cellsOf 3 = 1 by kernel_rfl] at h38_
  simp only [List.drop_succ_cons, List.drop_zero, List.take_succ_cons, List.take_zero] at h38_
  obtain ⟨et, rfl, bd_et⟩ := cell_int Try.underlying3 h38_
  have b_et := bd_i64 bd_et
  have h1 := k1
  obtain ⟨asid, rfl, bd_asid⟩ := val_int Try.underlying3 (hval 1 3 v1 rfl rfl) h1
  have b_asid := bd_i64 bd_asid
  have h2 := k2
  obtain ⟨va, rfl, bd_va⟩ := val_int Try.underlying22 (hval 2 22 v2 rfl rfl) h2
  have b_va := bd_u64 bd_va
  clear hA0 hval0 hsz0
  refine (Tm.law_any ⟨ea, ev, el, ek, eo, us, wr, ex, ud, et⟩ asid va ⟨b_ev.1, b_ev.2, b_eo.1, b_eo.2⟩ b_va.1 b_va.2 W).mono fun e W' ⟨he, bel⟩ => ?_
  subst he
  exact ⟨_, rfl, _, _, _, [], _, [], hW', trodAll_mk1 (shut_bool Try.underlying4 _), (trodAll_cons_mk (Below.trod laidOut (by kernel_rfl) (of_decide_eq_true (by kernel_rfl)) k0 bel hlt0) (trodAll_cons_mk (Below.trod laidOut (by kernel_rfl) (of_decide_eq_true (by kernel_rfl)) k1 bel hlt1) (trodAll_cons_mk (Below.trod laidOut (by kernel_rfl) (of_decide_eq_true (by kernel_rfl)) k2 bel hlt2) trodAll_mk0))), rfl, bel.frame _, fun h => by cases h⟩
theorem over : Rows.tlbMatchesRow.holds Try.pinned (OpenSpec.ofChange Rows.tlbMatchesSpec) :=
  OpenClaim.holds_of_wide 3 Try.f3 rfl rfl rfl rfl rfl rfl rfl ⟨rfl, rfl, rfl, rfl, rfl⟩ rfl rfl rfl rfl rfl (by kernel_rfl) Try.func3 (by kernel_rfl)
    (of_decide_eq_true (by kernel_rfl)) (by unfold Func.isWrapper; first | (rw [if_pos (by decide +kernel)]; kernel_rfl) | (rw [if_neg (by decide +kernel)]; exact ⟨rfl, rfl⟩))
    (fun os started H enc _ => lifted os started H enc)
end Go.Proofs.Ytccbpcdepgnmgaa.tlbMatchesRow
namespace Go.Proofs.Ytccbpcdepgnmgaa
theorem tlbMatches_holds : Rows.TlbMatchesSaid := tlbMatchesRow.over
#print axioms tlbMatches_holds
end Go.Proofs.Ytccbpcdepgnmgaa
