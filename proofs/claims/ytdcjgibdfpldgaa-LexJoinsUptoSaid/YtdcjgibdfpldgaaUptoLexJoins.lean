/- For every list of tokens of bulk at most 1048576 the program's joined text, or its error, is the document's, and the list stays. The condition: the bound on the bulk (the second form). -/
import Derived.Test.YtdcjgibdfpldgaaRows
import Derived.Test.YtdcjgibdfpldgaaLawL
import Derived.WalkKit
import Derived.ProofKit
import Derived.OpenShut
import Derived.JoinedCond
import Derived.ChangeOld
import Derived.Below
import Derived.Deep.Slices
import Derived.Deep.Fields
import Derived.ChangeSame
import Derived.Test.YtdcjgibdfpldgaaWSized
namespace Go.Proofs.Ytdcjgibdfpldgaa.lexJoins
open Go.ChangeShapes Go.WideShapes Go.ChangeAt Go.RowKit Go.Deep
open Go.Proofs.Ytdcjgibdfpldgaa.PLex Go.Proofs.YtdcjgibdfpldgaaW.PrintWords
set_option linter.unusedVariables false
set_option linter.unusedSimpArgs false
section
variable {H : Type} {enc : TypeId × Value → H} {P : Program} {w : World} {base : Nat} {spare : Nat → Bool} {held : Bool}
theorem open_slice_fields {t e : TypeId} {fs : Array Field} {fuel : Nat} {cs : List Value} {x : DataW H × List MemPlace} (ht : P.underlying t = some (.slice e)) (he : P.underlying e = some (.struct fs))
    (hone : oneCellFields P fs = true) (hC : P.cellsOf e = fs.size) (h : DataW.trod enc P w base spare held fuel t cs = some x) :
    (cs = [.slice none 0 0] ∧ x = (.nil, [])) ∨
    ∃ (a : Addr) (len cap m : Nat) (D : Nat → DataW H) (Pl : Nat → List MemPlace), cs = [.slice (some a) len cap] ∧ base ≤ a.block ∧ len ≤ cap ∧ cap ≤ maxLen ∧ m = (if spare a.block then cap else len) ∧
      x = (.slice ((List.range len).map D) ((List.range (m - len)).map fun j => D (len + j)), MemPlace.row a (m * fs.size) ++ (List.range m).flatMap Pl) ∧
      ∀ i, i < m → ∃ (ys : List (DataW H × List MemPlace)) (n : Nat), D i = .agg (ys.map (·.1)) ∧ Pl i = ys.flatMap (·.2) ∧ ys.length = fs.size ∧
        ∀ (j : Nat) (f : Field), fs[j]? = some f → ∃ (v : Value) (y : DataW H × List MemPlace), w.cell? (a.add (i * fs.size + j)) = some v ∧ ys[j]? = some y ∧ DataW.trod enc P w base spare held n f.type [v] = some y := by
  rcases open_slice ht h with h0 | ⟨a, len, cap, m, n, D, Pl, hcs, hb, hl, hm, hmm, hx, hi⟩
  · exact .inl h0
  · refine .inr ⟨a, len, cap, m, D, Pl, hcs, hb, hl, hm, hmm, by rw [hC] at hx; exact hx, fun i him => ?_⟩
    obtain ⟨cs', hc, ht'⟩ := hi i him
    rw [hC] at hc
    obtain ⟨ys, n', hn', hy, hlen, hyl, hf⟩ := DataW.trod_struct he ht'
    obtain ⟨_, hcl, hat⟩ := World.cells?_some hc
    simp only [Prod.mk.injEq] at hy
    refine ⟨ys, n', hy.1, hy.2, hyl, fun j f hj => ?_⟩
    obtain ⟨ho, hk⟩ := hone_of hone j f hj
    have hjl : j < fs.size := (Array.getElem?_eq_some_iff.1 hj).1
    have hcell := hat j hjl
    have hv : cs'[j]? = some (cs'[j]'(by omega)) := List.getElem?_eq_getElem (by omega)
    have h1 := hf j f hj
    rw [ho, hk] at h1
    have hone' : (cs'.drop j).take 1 = [cs'[j]'(by omega)] := by
      rw [List.drop_eq_getElem_cons (by omega)]
      rfl
    rw [hone'] at h1
    have hys : ys[j]? = some (ys[j]'(by omega)) := List.getElem?_eq_getElem (by omega)
    refine ⟨_, _, ?_, hys, h1.trans hys⟩
    rw [← Go.Deep.add_add, hcell, hv]
end
def tokD {H : Type} (t : S32) : DataW H := .agg [.lit (.int .i64 t.f0), .lit (.string t.f1.data.toList), .lit (.int .i64 t.f2)]
theorem bulk_sum {H : Type} (D : Nat → DataW H) (F : Nat → S32) : ∀ l : List Nat, (∀ i ∈ l, D i = tokD (F i)) → sumT (l.map F) + l.length ≤ Rows.uptoBulkAll (l.map D)
  | [], _ => by simp [sumT]
  | i :: l, h => by
    have := bulk_sum D F l (fun j hj => h j (by simp [hj]))
    simp only [List.map_cons, sumT, Rows.uptoBulkAll, List.length_cons]
    rw [h i (by simp)]
    simp only [tokD, Rows.uptoBulk, Rows.uptoBulkAll]
    rw [szl]; omega

/-- An argument of tokens, read: its cells, and how much it holds. -/
theorem open_tokens {H : Type} {enc : TypeId × Value → H} {w : World} {fuel : Nat} {A : Option Addr} {len cap : Nat} {d : DataW H} {p : List MemPlace}
    (h : DataW.trod enc Try.prog w 0 (fun _ => true) true fuel 22 [.slice A len cap] = some (d, p)) :
    ∃ xs : List S32, len ≤ cap ∧ Kd.C k32 w A len xs ∧ sumT xs + xs.length ≤ Rows.uptoBulk d := by
  rcases open_slice_fields Try.underlying22 Try.underlying32 (by kernel_rfl) (by kernel_rfl) h with ⟨hcs, hx⟩ | ⟨a, l, c, m, D, Pl, hcs, hb, hl, hm, hmm, hx, hi⟩
  · simp only [List.cons.injEq, Value.slice.injEq, and_true] at hcs
    obtain ⟨rfl, rfl, rfl⟩ := hcs
    exact ⟨[], by omega, Kd.C_nil k32 w, by simp [sumT]⟩
  · simp only [List.cons.injEq, Value.slice.injEq, and_true] at hcs
    obtain ⟨rfl, rfl, rfl⟩ := hcs
    simp only [if_true] at hmm
    subst hmm
    have key : ∀ i, ∃ t : S32, i < m → D i = tokD t ∧ w.cell? (a.add (i * 3 + 0)) = some (.int .i64 t.f0) ∧ w.cell? (a.add (i * 3 + 1)) = some (.string t.f1) ∧ w.cell? (a.add (i * 3 + 2)) = some (.int .i64 t.f2) := by
      intro i
      by_cases h : i < m
      · obtain ⟨ys, n, e1, e2, e3, e4⟩ := hi i h
        obtain ⟨v0, y0, c0, g0, t0⟩ := e4 0 _ rfl
        obtain ⟨v1, y1, c1, g1, t1⟩ := e4 1 _ rfl
        obtain ⟨v2, y2, c2, g2, t2⟩ := e4 2 _ rfl
        obtain ⟨b0, k0, rfl, _⟩ := DataW.trod_int Try.underlying3 t0
        obtain ⟨b1, k1, rfl, _⟩ := DataW.trod_string Try.underlying9 t1
        obtain ⟨b2, k2, rfl, _⟩ := DataW.trod_int Try.underlying3 t2
        cases k0; cases k1; cases k2
        refine ⟨⟨b0, b1, b2⟩, fun _ => ⟨?_, c0, c1, c2⟩⟩
        have : ys = [(.lit (.int .i64 b0), []), (.lit (.string b1.data.toList), []), (.lit (.int .i64 b2), [])] := by
          have e3' : ys.length = 3 := e3
          match ys, e3' with
          | [x, y, z], _ =>
            simp at g0 g1 g2
            rw [g0, g1, g2]
        rw [e1, this]; rfl
      · exact ⟨z32, fun h' => absurd h' h⟩
    obtain ⟨F, hF⟩ : ∃ F : Nat → S32, ∀ i, i < m → D i = tokD (F i) ∧ w.cell? (a.add (i * 3 + 0)) = some (.int .i64 (F i).f0) ∧ w.cell? (a.add (i * 3 + 1)) = some (.string (F i).f1) ∧ w.cell? (a.add (i * 3 + 2)) = some (.int .i64 (F i).f2) :=
      ⟨fun i => Classical.choose (key i), fun i h => Classical.choose_spec (key i) h⟩
    refine ⟨(List.range len).map F, hl, ⟨by simp, by unfold maxLen at hm; omega, fun _ => ⟨a, rfl, fun j p hj => ?_⟩⟩, ?_⟩
    · have hjl : j < len := by
        have := (List.getElem?_eq_some_iff.1 hj).1; simpa using this
      have hp : p = F j := by
        rw [List.getElem?_map, List.getElem?_range hjl] at hj; simpa using hj.symm
      subst hp
      obtain ⟨_, c0, c1, c2⟩ := hF j (by omega)
      refine ⟨[.int .i64 (F j).f0, .string (F j).f1, .int .i64 (F j).f2], rfl, k32_mk w (F j), fun i u hu => ?_⟩
      match i, hu with
      | 0, hu => simp at hu; rw [← hu]; exact c0
      | 1, hu => simp at hu; rw [← hu]; exact c1
      | 2, hu => simp at hu; rw [← hu]; exact c2
    · simp only [Prod.mk.injEq] at hx
      rw [hx.1]
      have := bulk_sum D F (List.range len) (fun i hi' => (hF i (by have := List.mem_range.mp hi'; omega)).1)
      simp only [Rows.uptoBulk, List.length_map, List.length_range] at this ⊢
      omega
theorem own : ownKnob Try.prog.godebug = none := by kernel_rfl
theorem laidOut : laidOutB Try.prog = true := by kernel_rfl
set_option maxRecDepth 100000 in
theorem contract (H : Type) (enc : TypeId × Value → H) (W : World) (base : Nat) (args : Array Value) (ds gs : List (DataW H)) (before : List MemPlace)
    (hval0 : ∀ (j : Nat) t v, Try.f5.params[j]? = some t → args[j]? = some v → Value.okWide Try.prog W .any base t v)
    (hW : DataW.Whole enc Try.prog Try.f5.params.toList Rows.lexJoinsSpec.vars false W args.toList ds gs before) (hk : Rows.uptoSmall H (ds ++ gs) = true) :
    Calls Try.prog 5 args W fun e W' => ∃ v, e = .returned v ∧ Rows.lexJoinsSpec.post enc Try.prog Try.f5 false true false false W args v W' := by
  have hval : ∀ (j : Nat) t v, Try.f5.params[j]? = some t → args[j]? = some v → Value.okWide Try.prog W .any base t v := hval0
  have hW' := hW
  obtain ⟨p, q, hA0, hV, rfl, hfz, hnd⟩ := hW
  have hA : DataW.TrodAll enc Try.prog W 0 (fun _ => true) true Try.f5.params.toList args.toList ds p := hA0
  rw [Try.params5] at hA hval
  obtain ⟨v0, vs0, d0, ds0, p0, q0, hargs, rfl, rfl, h0, r0⟩ := trodAll_cons hA
  obtain ⟨rfl, rfl, rfl⟩ := trodAll_nil r0
  obtain rfl : args = #[v0] := by cases args; simp_all
  obtain ⟨rfl, rfl⟩ := trodVars_none hV
  obtain ⟨a0, len0, cap0, rfl⟩ := okWide_slice Try.underlying22 (hval 0 22 v0 rfl rfl)
  have k0 := h0
  have lt0 : ∀ x ∈ p0, x.block < W.heap.size := by obtain ⟨m, hm⟩ := k0; exact DataW.trod_lt m _ _ _ hm
  obtain ⟨fuel, hf⟩ := h0
  obtain ⟨xs, hlc, hC, hbulk⟩ := open_tokens (by simpa [Value.cells] using hf)
  have hb : Rows.uptoBulkAll [d0] ≤ 1048576 := of_decide_eq_true (by simp only [List.append_nil] at hk; exact hk)
  simp only [Rows.uptoBulkAll] at hb
  obtain ⟨k, hkk⟩ := joins_pure xs (by omega) (by omega)
  have hlen : xs.length = len0 := Kd.C_len hC
  subst hlen
  refine (cusplaw24_LexJoins.calls k a0 cap0 xs true W hC hlc hkk).mono fun e W' ⟨he, bel⟩ => ?_
  subst he
  exact ⟨_, rfl, _, _, _, [], _, [], hW', trodAll_mk1 (shut_bool Try.underlying4 _), (trodAll_cons_mk (Below.trod laidOut (by kernel_rfl) (of_decide_eq_true (by kernel_rfl)) k0 bel lt0) trodAll_mk0), rfl, bel.frame _, fun h => by cases h⟩
set_option maxRecDepth 100000 in
theorem lifted (os : Os) (started : os.Started) (H : Type) (enc : TypeId × Value → H) (F : Stop.Interp) :
    ReturnsInHanded {} Try.checked os 5 .any ((Rows.OpenSpec.upto Rows.lexJoinsSpec).pre6 enc Try.prog Try.f5 Rows.lexJoinsUptoRow.domain false) (((Rows.OpenSpec.upto Rows.lexJoinsSpec).at F).post enc Try.prog Try.f5 false true false false) := by
  refine returnsInHanded_of_cond (C := Try.checked) (s := Rows.OpenSpec.upto Rows.lexJoinsSpec) (k := Rows.uptoSmall) rfl own started (by kernel_rfl) Try.func5
    (OpenSpec.witness (enc := enc) (C := Try.checked) (s := Rows.OpenSpec.upto Rows.lexJoinsSpec) (k := Rows.uptoSmall) rfl false ⟨#[], #[.slice none 0 0], []⟩ 8 (by kernel_rfl) (by kernel_rfl) (by kernel_rfl)
      (x := ([.nil], [], [])) (by kernel_rfl) rfl (by kernel_rfl)) ?_
  intro W base args ds gs before hval hW _ hk _
  exact contract H enc W base args ds gs before hval hW hk
theorem over : Rows.lexJoinsUptoRow.holds Try.pinned (Rows.OpenSpec.upto Rows.lexJoinsSpec) :=
  OpenClaim.holds_of_cond 5 Try.f5 rfl rfl rfl rfl rfl rfl rfl ⟨rfl, rfl, rfl, rfl, rfl⟩ rfl rfl rfl rfl rfl (by kernel_rfl) Try.func5 (by kernel_rfl)
    (of_decide_eq_true (by kernel_rfl)) (by unfold Func.isWrapper; first | (rw [if_pos (by decide +kernel)]; kernel_rfl) | (rw [if_neg (by decide +kernel)]; exact ⟨rfl, rfl⟩))
    (fun os started H enc _ F => lifted os started H enc F)
theorem proved : Rows.LexJoinsUptoSaid := over
#print axioms proved
end Go.Proofs.Ytdcjgibdfpldgaa.lexJoins
namespace Go.Proofs.Ytdcjgibdfpldgaa
/-- The row, under a short name, for the claim. -/
theorem lexJoins_holds : Rows.LexJoinsUptoSaid := lexJoins.proved
end Go.Proofs.Ytdcjgibdfpldgaa
