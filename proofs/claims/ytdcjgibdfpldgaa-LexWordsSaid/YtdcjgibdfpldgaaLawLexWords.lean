/- For every text, and every token, the program and the document agree on whether it is a name, a number, a token. No condition beyond the form's own reach. -/
import Derived.Test.YtdcjgibdfpldgaaRows
import Derived.Test.YtdcjgibdfpldgaaPLex10
import Derived.Test.YtdcjgibdfpldgaaLawK
import Derived.WalkKit
import Derived.ProofKit
import Derived.OpenShut
import Derived.ShutString
import Derived.ChangeOld
import Derived.Below
import Derived.SizedLaws
import Derived.Lib.SmallJoins
namespace Go.Proofs.Ytdcjgibdfpldgaa.lexWords
open Go.ChangeShapes Go.WideShapes Go.ChangeAt Go.RowKit
open Go.ChangeMaps (open_string shut_string)
open Go.Joins
open Go.Proofs.Ytdcjgibdfpldgaa.PLex Go.Proofs.YtdcjgibdfpldgaaW.PrintWords
set_option linter.unusedVariables false
theorem pure_ (s : ByteArray) (f0 : Int) (f1 : ByteArray) (f2 : Int) (hs : s.size ≤ 140737488351232) (h1 : f1.size ≤ 140737488351232) : ∃ k, cusplaw24_LexWords.f k s f0 f1 f2 = some true := by
  apply Ev.rounds
  unfold cusplaw24_LexWords.f
  refine Ev.bind (Name_ev s hs) (Ev.bind (rName_ev s hs) ?_)
  refine Ev.congr (fun k => if_pos (by simp)) (Ev.bind (Number_ev s hs) (Ev.bind (rNumber_ev s hs) ?_))
  refine Ev.congr (fun k => if_pos (by simp)) (Ev.bind (Valid_ev f0 f1 f2 h1) (Ev.bind (rValid_ev f0 f1 f2 h1) ?_))
  exact Ev.congr (fun k => if_pos (by simp)) (Ev.bind works_ev (Ev.now _))
theorem trod_str_mk {H : Type} {enc : TypeId × Value → H} {P : Program} {w : World} {base : Nat} {spare : Nat → Bool} {held : Bool} {t : TypeId} {s : ByteArray} (m : Nat) (ht : P.underlying t = some .string) (hw : s.size ≤ maxLen) : DataW.trod enc P w base spare held (m + 1) t [.string s] = some (.lit (.string s.data.toList), []) := by
  simp [DataW.trod, ht, hw]
theorem sized_agg3 {H : Type} {P : Program} {ts : List TypeId} {ds : List (DataW H)} (h : (DataW.weightsEach P ts ds).all (· ≤ reachBytes) = true) {j : Nat} {t : TypeId} {f0 f1 f2 : Field} {x0 x2 : DataW H} {bytes : List UInt8} (ht : ts[j]? = some t)
    (hd : ds[j]? = some (.agg [x0, .lit (.string bytes), x2])) (hu : P.underlying t = some (.struct #[f0, f1, f2])) : bytes.length ≤ reachBytes := by
  have := List.all_eq_true.1 h _ (DataW.weights_mem_each ht hd bytes.length (by simp [DataW.weights, hu, DataW.weightsEach]))
  simpa using this
theorem own : ownKnob Try.prog.godebug = none := by kernel_rfl
set_option maxRecDepth 100000 in
theorem lifted (os : Os) (started : os.Started) (H : Type) (enc : TypeId × Value → H) :
    ReturnsInHanded {} Try.checked os 4 .any (Rows.lexWordsSpec.pre6 enc Try.prog Try.f4 Rows.lexWordsRow.domain false) (Rows.lexWordsSpec.post enc Try.prog Try.f4 false true false false) := by
  refine returnsInHanded_of_change_sized (C := Try.checked) own started (by kernel_rfl) Try.func4
    (ChangeSpec.witness6 (enc := enc) (C := Try.checked) false ⟨#[], #[.string ByteArray.empty, .agg #[.int .i64 0, .string ByteArray.empty, .int .i64 0]], []⟩ 8 (by kernel_rfl) (by kernel_rfl) (by kernel_rfl) (by kernel_rfl)) ?_
  intro W base args ds gs before hval0 hW hcnd hsz0 _
  have hsz : (DataW.weightsEach Try.prog (Try.f4.params.toList ++ Rows.lexWordsSpec.plain.varTypes Try.prog) (ds ++ gs)).all (· ≤ reachBytes) = true := hsz0
  have hval : ∀ (j : Nat) t v, Try.f4.params[j]? = some t → args[j]? = some v → Value.okWide Try.prog W .any base t v := hval0
  have hW' := hW
  obtain ⟨p, q, hA0, hV, rfl, hfz, hnd⟩ := hW
  have hA : DataW.TrodAll enc Try.prog W 0 (fun _ => true) true Try.f4.params.toList args.toList ds p := hA0
  rw [Try.params4] at hA hval hsz
  obtain ⟨v0, vs0, d0, ds0, p0, q0, hargs, rfl, rfl, h0, r0⟩ := trodAll_cons hA
  obtain ⟨v1, vs1, d1, ds1, p1, q1, rfl, rfl, rfl, h1, r1⟩ := trodAll_cons r0
  obtain ⟨rfl, rfl, rfl⟩ := trodAll_nil r1
  obtain rfl : args = #[v0, v1] := by cases args; simp_all
  obtain ⟨rfl, rfl⟩ := trodVars_none hV
  obtain ⟨a0, rfl, rfl, rfl, y0⟩ := open_string Try.underlying9 (hval 0 9 v0 rfl rfl) h0
  have w0 : a0.size ≤ 140737488351232 := by
    have z := sized_string hsz (j := 0) (t := 9) rfl rfl
    rw [Array.length_toList] at z
    exact z
  obtain ⟨u0, u1, u2, z0, z1, z2, n, rfl, rfl, rfl, t0, t1, t2⟩ := open_agg3 Try.underlying32 (by kernel_rfl) (by kernel_rfl) (hval 1 32 v1 rfl rfl) h1
  obtain ⟨b0, e0, rfl, wf0⟩ := DataW.trod_int Try.underlying3 t0
  obtain ⟨b1, e1, rfl, wf1⟩ := DataW.trod_string Try.underlying9 t1
  obtain ⟨b2, e2, rfl, wf2⟩ := DataW.trod_int Try.underlying3 t2
  cases e0; cases e1; cases e2
  have w1 : b1.size ≤ 140737488351232 := by
    have z := sized_agg3 hsz (j := 1) (t := 32) rfl rfl Try.underlying32
    rw [Array.length_toList] at z
    exact z
  clear hA0 hval0 hsz0 hsz
  obtain ⟨k, hk⟩ := pure_ a0 b0 b1 b2 w0 w1
  refine (cusplaw24_LexWords.calls k a0 b0 b1 b2 true W hk).mono fun e W' ⟨he, bel⟩ => ?_
  subst he
  exact ⟨_, rfl, _, _, _, [], _, [], hW', trodAll_mk1 (shut_bool Try.underlying4 _), (trodAll_cons_mk (shut_string Try.underlying9 y0) (trodAll_cons_mk (shut_agg3 (y0 := (.lit (.int .i64 b0), [])) (y1 := (.lit (.string b1.data.toList), [])) (y2 := (.lit (.int .i64 b2), [])) Try.underlying32 (by kernel_rfl) (by kernel_rfl) ⟨1, trod_int_mk 0 Try.underlying3 wf0⟩ ⟨1, trod_str_mk 0 Try.underlying9 wf1⟩ ⟨1, trod_int_mk 0 Try.underlying3 wf2⟩) trodAll_mk0)), rfl, bel.frame _, fun h => by cases h⟩
theorem over : Rows.lexWordsRow.holds Try.pinned (OpenSpec.ofChange Rows.lexWordsSpec) :=
  OpenClaim.holds_of_wide 4 Try.f4 rfl rfl rfl rfl rfl rfl rfl ⟨rfl, rfl, rfl, rfl, rfl⟩ rfl rfl rfl rfl rfl (by kernel_rfl) Try.func4 (by kernel_rfl)
    (of_decide_eq_true (by kernel_rfl)) (by unfold Func.isWrapper; first | (rw [if_pos (by decide +kernel)]; kernel_rfl) | (rw [if_neg (by decide +kernel)]; exact ⟨rfl, rfl⟩))
    (fun os started H enc _ => lifted os started H enc)
theorem proved : Rows.LexWordsSaid := over
#print axioms proved
end Go.Proofs.Ytdcjgibdfpldgaa.lexWords
namespace Go.Proofs.Ytdcjgibdfpldgaa
/-- The row, under a short name, for the claim. -/
theorem lexWords_holds : Rows.LexWordsSaid := lexWords.proved
end Go.Proofs.Ytdcjgibdfpldgaa
