/- A page of a memory is forgotten: delete, wipe. -/
import Derived.Test.YtndeaikmelpflaaBf
namespace Go.Proofs.Ytndeaikmelpflaa.Bg
open Go.RowKit Go.Shelf Go.Maps Go.Proofs.Ytndeaikmelpflaa.G Go.Proofs.Ytndeaikmelpflaa.B Go.Proofs.Ytndeaikmelpflaa.M Go.Proofs.Ytndeaikmelpflaa.Mv Go.Proofs.Ytndeaikmelpflaa.Sl Go.Proofs.Ytndeaikmelpflaa.Sm Go.Proofs.Ytndeaikmelpflaa.Sn Go.Proofs.Ytndeaikmelpflaa.Ma Go.Proofs.Ytndeaikmelpflaa.Dr Go.Proofs.Ytndeaikmelpflaa.Ya Go.Proofs.Ytndeaikmelpflaa.Yb Go.Proofs.Ytndeaikmelpflaa.Yc Go.Proofs.Ytndeaikmelpflaa.Ls Go.Proofs.Ytndeaikmelpflaa.Ba Go.Proofs.Ytndeaikmelpflaa.Bc Go.Proofs.Ytndeaikmelpflaa.Be Go.Proofs.Ytndeaikmelpflaa.Bf
open Go.WideElems (Fit rd rg rd_mk rg_of)
open Go.ChangeMaps (setBlock heap_setBlock_same)

set_option linter.unusedVariables false
set_option linter.unusedSimpArgs false
set_option maxRecDepth 100000
/-- Which entries are left. -/
def Lft (es es' : Array MapEntry) (key : Value) : Prop := es'.toList.Sublist es.toList ∧ ∀ x, x ∈ es'.toList ↔ (x ∈ es.toList ∧ x.key ≠ key)
section
variable {P : Program} {ops : Array Oper} {rest : List Oper} {o : Oper} {a : Act} {Q : Exit → Act → World → Prop} {W w0 : World} {M : List Nat} {L : Hp}
theorem at_delete {m x : Operand} {t k : TypeId} (h : o.op = .call { callee := .builtin .delete, args := #[m, x], argTypes := #[t, k] }) (kk : wpList P ops Q (o :: rest) a W) : wpList P ops Q (o :: rest) a W := kk
theorem delete_m (HM : Mem w0 M L W) (hw : Region.wanted o (yielded ops a.tmps) = true) (m x : Operand) (t k : TypeId) (ho : o.op = .call { callee := .builtin .delete, args := #[m, x], argTypes := #[t, k] })
    (i gm clock : Nat) (es : Array MapEntry) (hi : L[i]? = some (gm, .map es clock)) (hm : a.eval m = .map (some gm)) (key : Value) (hx : a.eval x = key)
    (hex : ∀ (u : World) (ty : TypeId), u.heap[gm]? = some (.map es clock) → ∃ es', (Builtin.delete_ #[t, k] ty #[.map (some gm), key]).run P u = .ok (.tuple #[]) (setBlock u gm (.map es' clock)) ∧ Lft es es' key)
    (h : ∀ es' w1, Lft es es' key → Mem w0 M (L.set i (gm, .map es' clock)) w1 → wpList P ops Q rest (a.put o.dst (.tuple #[])) w1) : wpList P ops Q (o :: rest) a W := by
  have hb := HM.get i hi
  obtain ⟨es', hrun, hl⟩ := hex W o.type hb
  have hg : gm < W.heap.size := blk_lt hb
  refine (outs_run (N := fun v' w => v' = .tuple #[] ∧ Mem w0 M (L.set i (gm, .map es' clock)) w) (w1 := setBlock W gm (.map es' clock)) (v := .tuple #[]) ?_ ⟨rfl, HM.turn i hi (heap_setBlock_same hb _) (Ms.Mod1.obj W gm _)⟩).ev hw fun _ _ ⟨e1, hm⟩ => by subst e1; exact h es' _ hl hm
  unfold execOp
  simp [ho, resolve, invoke, builtin, hm, hx, hrun, Result.andThen]
end
/-- A page of noughts. -/
def clr (f : Int → Int) (p : Int) : Int → Int := fun n => if n / 512 = p then 0 else f n
def sans (S : List Sh) (p : Int) : List Sh := S.filter fun s => decide (s.p ≠ p)
theorem mem_sans {S : List Sh} {p : Int} {s : Sh} : s ∈ sans S p ↔ s ∈ S ∧ s.p ≠ p := by simp [sans]
theorem sub_filter {α : Type} {l l' : List α} {q : α → Bool} (hs : l'.Sublist l) (hn : l.Nodup) (hm : ∀ x, x ∈ l' ↔ (x ∈ l ∧ q x = true)) : l' = l.filter q := by
  have h1 : l'.Sublist (l.filter q) := by
    have := hs.filter q
    rwa [List.filter_eq_self.2 (fun x hx => ((hm x).1 hx).2)] at this
  refine h1.eq_of_length ?_
  refine List.Perm.length_eq ((List.perm_ext_iff_of_nodup (hs.nodup hn) (hn.sublist List.filter_sublist)).2 fun x => ?_)
  rw [hm x, List.mem_filter]
variable {sz : Int} {f : Int → Int} {clock : Nat} {es : Array MapEntry} {S : List Sh}
theorem ents_sans {es' : Array MapEntry} (h : PmS sz f clock es S) (p : Int) (hl : Lft es es' (.int .u64 p)) : Ents es'.toList (keys (sans S p)) := by
  classical
  have hn : es.toList.Nodup := (List.pairwise_map.1 h.stamp.2).imp fun hne e => hne (congrArg _ e)
  have e1 : es'.toList = es.toList.filter fun x => decide (x.key ≠ .int .u64 p) := sub_filter hl.1 hn fun x => by rw [hl.2 x]; simp
  have e2 := h.ents
  unfold Ents at e2 ⊢
  rw [e1]
  have e3 : (es.toList.filter fun x => decide (x.key ≠ .int .u64 p)).map (fun e => (e.key, e.val)) = (es.toList.map fun e => (e.key, e.val)).filter fun y => decide (y.1 ≠ .int .u64 p) := by
    rw [List.filter_map]; rfl
  rw [e3, e2]
  unfold keys sans
  rw [List.map_map, List.map_map, List.filter_map]
  congr 1
  refine List.filter_congr fun s hs => ?_
  simp [Function.comp]
theorem pms_sans {es' : Array MapEntry} (h : PmS sz f clock es S) (p : Int) (hl : Lft es es' (.int .u64 p)) : PmS sz (clr f p) clock es' (sans S p) := by
  refine ⟨ents_sans h p hl, ?_, fun s hs => h.size s (mem_sans.1 hs).1, fun s hs i hi => ?_, fun n hn => ?_, fun n => ?_, ⟨fun x hx => h.stamp.1 x ((hl.2 x).1 hx).1, (hl.1.map _).nodup h.stamp.2⟩, fun s hs => h.low s (mem_sans.1 hs).1, h.most⟩
  · exact (List.Sublist.map _ List.filter_sublist).nodup h.one
  · obtain ⟨h1, h2⟩ := mem_sans.1 hs
    have := h.word s h1 i hi
    unfold clr
    rw [if_neg (by omega)]
    exact this
  · unfold clr
    split
    · rfl
    · rename_i hne
      exact h.no n fun s hs e => hn s (mem_sans.2 ⟨hs, fun e2 => hne (by rw [← e2, e])⟩) e
  · unfold clr
    split
    · decide
    · exact h.rng n
theorem sheets_sans (S : List Sh) (p : Int) : ∃ X, (sheets S).Perm (sheets (sans S p) ++ X) := by
  refine ⟨sheets (S.filter fun s => !decide (s.p ≠ p)), ?_⟩
  unfold sheets sans
  rw [← List.map_append]
  exact (List.filter_append_perm _ _).symm.map _
theorem del_ex (h : PmS sz f clock es S) (p : Int) (p0 : 0 ≤ p) (p1 : p < 1048576) (gm : Nat) (u : World) (ty : TypeId) (hb : u.heap[gm]? = some (.map es clock)) : ∃ es', (Builtin.delete_ #[89, 25] ty #[.map (some gm), .int .u64 p]).run Try.prog u = .ok (.tuple #[]) (setBlock u gm (.map es' clock)) ∧ Lft es es' (.int .u64 p) := by
  obtain ⟨es', h1, -, -, -, h2, h3⟩ := fit_drop_who (ty := ty) kU uM hb (fit_of h) (keyOf_int_mk uU (wf_u64 p0 p1))
  exact ⟨es', h1, h2, h3⟩
/-- Blocks that are left over may be forgotten. -/
theorem spare {P : Program} {f : FuncId} {args : Array Value} {A : Hp} {R1 R2 : Value → Hp → Prop} (C : Does P f args A R1) (h : ∀ v L, R1 v L → ∃ L' X, L.Perm (L' ++ X) ∧ R2 v L') : Does P f args A R2 :=
  fun w hw => (C w hw).mono fun _ _ ⟨v, L, he, hr, hm⟩ => by
    obtain ⟨L', X, h1, h2⟩ := h v L hr
    exact ⟨v, L', he, h2, (hm.perm h1).take⟩
set_option maxHeartbeats 4000000 in
theorem wipe_one (h : PmS sz f clock es S) (p : Int) (p0 : 0 ≤ p) (p1 : p < 1048576) (gM gm : Nat) (size : Value) : Does Try.prog 42 #[.pointer (some ⟨gM, 0, none⟩), .int .u64 p, .int .u64 (p * 4096), .int .u64 (p * 4096 + 4096)] [(gM, row #[size, .map (some gm)] 91), (gm, .map es clock)]
    fun r L => r = .tuple #[] ∧ ∃ es', Lft es es' (.int .u64 p) ∧ L = [(gM, row #[size, .map (some gm)] 91), (gm, .map es' clock)] := by
  have e1 : IntKind.u64.wrap (p * 4096) = p * 4096 := u64_wrap _ (by omega) (by omega)
  have e2 : IntKind.u64.wrap ((p + 1) * 4096) = p * 4096 + 4096 := by rw [u64_wrap _ (by omega) (by omega)]; omega
  have HX := Lib.hid (fun (u : World) (ty : TypeId) hb => del_ex h p p0 p1 gm u ty hb)
  intro w hH
  have HM := Mem.start hH
  go_enter Try.func42, Try.ntmps42
  go_wp2_with (first
    | (go_big_skip)
    | (refine Go.Proofs.Ytndeaikmelpflaa.Bg.at_delete rfl ?_; refine Go.Proofs.Ytndeaikmelpflaa.Bg.delete_m HM rfl _ _ _ _ rfl 1 gm _ _ rfl rfl _ rfl HX.out ?_; clear HM; intro es_ w_ hl_ HM; (try simp only [Go.Proofs.Ytndeaikmelpflaa.M.nrm] at HM); go_simp)
    | (refine Go.Proofs.Ytndeaikmelpflaa.M.at_mem rfl ?_; first | (refine Go.Proofs.Ytndeaikmelpflaa.M.at_load 89 rfl ?_; first | (refine Go.Proofs.Ytndeaikmelpflaa.M.load_cell_m HM rfl 89 _ rfl 0 _ _ _ _ _ rfl rfl rfl (by kernel_rfl) (by kernel_rfl) ?_; go_simp) | (refine Go.Proofs.Ytndeaikmelpflaa.M.load_cell_m HM rfl 89 _ rfl 1 _ _ _ _ _ rfl rfl rfl (by kernel_rfl) (by kernel_rfl) ?_; go_simp)) | ((fail_if_success (refine Go.Proofs.Ytndeaikmelpflaa.M.lit_t rfl ?_)); (fail_if_success (refine Go.Proofs.Ytndeaikmelpflaa.M.lit_f rfl ?_)); refine Go.Proofs.Ytndeaikmelpflaa.M.split_guard rfl rfl ?_ ?_ <;> (intro hg_; simp only [hg_]; try simp only [Go.Proofs.Ytndeaikmelpflaa.M.hgs] at hg_)))
    | (refine Mc.at_cmp _ rfl ?_; refine Mc.cmp_m rfl _ rfl _ _ _ rfl _ _ _ rfl rfl _ rfl ?_ ?_ <;> (intro hg_; try simp only [Go.Proofs.Ytndeaikmelpflaa.M.hgs] at hg_; first | (exfalso; first | omega | (simp at hg_; done)) | (go_simp)))
    | ((fail_if_success (refine Go.Proofs.Ytndeaikmelpflaa.M.lit_t rfl ?_)); (fail_if_success (refine Go.Proofs.Ytndeaikmelpflaa.M.lit_f rfl ?_)); refine Go.Proofs.Ytndeaikmelpflaa.M.split_guard rfl rfl ?_ ?_ <;> (intro hg_; simp only [hg_]; try simp only [Go.Proofs.Ytndeaikmelpflaa.M.hgs] at hg_)))
  all_goals
    refine bodyPost_ret (results_none rfl _ _ _) rfl ?_
    first
    | exact ⟨_, _, rfl, ⟨rfl, es_, hl_, rfl⟩, HM⟩
    | exact ⟨_, ⟨rfl, es_, hl_, rfl⟩, HM⟩
end Go.Proofs.Ytndeaikmelpflaa.Bg
