/- The law FnRingSaid answers true, whatever it is handed; what it is handed reads behind the call as it read before. There are no conditions. -/
import Derived.Test.YtlgnmloddedbaaaGreatRows
import Derived.Test.YtlgnmloddedbaaaGreatTm4
import Derived.Test.YtlgnmloddedbaaaGreatBPRingD
import Derived.WalkKit
import Derived.ProofKit
import Derived.OpenShut
import Derived.ShutString
import Derived.ChangeOld
import Derived.Below
import Derived.SizedLaws
set_option linter.unusedSimpArgs false
set_option linter.unusedVariables false
namespace Go.Proofs.YtlgnmloddedbaaaGreat.fnRingSaid
open Go.ChangeShapes Go.WideShapes Go.ChangeAt Go.RowKit
set_option maxRecDepth 100000 in
theorem lifted (os : Os) (started : os.Started) (H : Type) (enc : TypeId × Value → H) :
   ReturnsInHanded {} Tryz.checked os 6 .any (Rows.fnRingSaidSpec.pre6 enc Tryz.prog Tryz.f6 Rows.fnRingSaidRow.domain false) (Rows.fnRingSaidSpec.post enc Tryz.prog Tryz.f6 false true false false) := by
 refine returnsInHanded_of_change_sized (C := Tryz.checked) Go.TM.SS started (by kernel_rfl) Tryz.func6
   (ChangeSpec.witness6 (enc := enc) (C := Tryz.checked) false ⟨#[], #[.slice none 0 0], []⟩ 8 (by kernel_rfl) (by kernel_rfl) (by kernel_rfl) (by kernel_rfl)) ?_
 intro W base args ds gs before Zw hW ajj ajk _; have pN : ∀ (j : Nat) t v, Tryz.f6.params[j]? = some t → args[j]? = some v → Value.okWide Tryz.prog W .any base t v := Zw; have hW' := hW; have bX := hW'.lt; obtain ⟨p, q, Ii, hV, rfl, Va, Ij⟩ := hW; have hA : DataW.TrodAll enc Tryz.prog W 0 (fun _ => true) true Tryz.f6.params.toList args.toList ds p := Ii; have WJ := hA; rw [Tryz.params6] at WJ; obtain ⟨v0, vs0, d0, ds0, p0, q0, B7, rfl, hp0, h0, r0⟩ := trodAll_cons WJ; obtain ⟨_, rfl, _⟩ := trodAll_nil r0; obtain ⟨rfl, rfl⟩ := trodVars_none hV; refine (Go.TM.Ls Go.TM.Qc Go.TM.k6 (by kernel_rfl) (fun x hx => ⟨(true, ()), Go.TM.FX x.1, rfl⟩) (fun j t v ht hv => pN j t v (by rwa [Array.getElem?_toList] at ht) hv) hA (fun x hx => bX x (List.mem_append_left _ hx))).mono fun e W' ⟨he, bel, VK⟩ => ?_
 subst he; exact ⟨_, rfl, _, _, _, [], _, [], hW', trodAll_mk1 (shut_bool Tryz.underlying4 _), VK, rfl, bel.frame _, fun h => by cases h⟩
theorem aL {a b : Bool} (h : (a && b) = true) : a = true := by cases a; cases h; rfl
theorem aR {a b : Bool} (h : (a && b) = true) : b = true := by cases a; cases h; exact h
theorem aB {a b : Bool} (h : a = true) (g : b = true) : (a && b) = true := by rw [h, g]; rfl
theorem QS : (Rows.fnRingSaidRow.wf (OpenSpec.ofChange Rows.fnRingSaidSpec) && laidOutB Tryz.prog && mapsRowed Tryz.prog && Tryz.f6.params.all (Tryz.prog.readableRec ·) && namedTie Tryz.prog Rows.fnRingSaidRow.named Rows.fnRingSaidSpec.vars && (Rows.fnRingSaidRow.stops == []) && (Tryz.prog.stops == []) && (Rows.fnRingSaidRow.knobs == []) && (Tryz.prog.stopKnobs == [])) = true := by kernel_rfl
theorem cf1 : ((Rows.fnRingSaidRow.inPlace == Tryz.prog.inPlace 6) && (Rows.fnRingSaidRow.unfollowed == Tryz.prog.unfollowed 6) && (Rows.fnRingSaidRow.recurses == Tryz.prog.recurses 6)) = true := by kernel_rfl
theorem cf2 : ((Rows.fnRingSaidRow.named == Tryz.prog.varsNamed 6) && (Rows.fnRingSaidRow.maps == (Tryz.f6.params.toList ++ Rows.fnRingSaidSpec.plain.varTypes Tryz.prog).any (Tryz.prog.mapsRec ·))) = true := by kernel_rfl
theorem Z2 : ((Rows.fnRingSaidRow.ifaces == (Tryz.f6.params.toList ++ Rows.fnRingSaidSpec.plain.varTypes Tryz.prog).any (Tryz.prog.ifacesRec ·)) && (Rows.fnRingSaidRow.mapsOut == Tryz.prog.mapsAmong Tryz.f6.resultTypes.toList) && (Rows.fnRingSaidRow.loops == (Tryz.f6.params.toList ++ Rows.fnRingSaidSpec.plain.varTypes Tryz.prog).any (Tryz.prog.loopsFrom ·)) && (Rows.fnRingSaidRow.wideKeys == (Tryz.f6.params.toList ++ Rows.fnRingSaidSpec.plain.varTypes Tryz.prog ++ Tryz.f6.resultTypes.toList).any (Tryz.prog.wideKeysFrom ·))) = true := by kernel_rfl
theorem cf4 : (Rows.fnRingSaidSpec.vars.all (Tryz.prog.varReadable ·) && Tryz.f6.resultTypes.all (fun t => Tryz.prog.readableRec t && decide (t < Tryz.prog.types.size))) = true := by kernel_rfl
theorem Wg : ((Rows.fnRingSaidRow.ifacesOut == Tryz.f6.resultTypes.toList.any (Tryz.prog.ifacesRec ·)) && (Rows.fnRingSaidRow.loopsOut == Tryz.f6.resultTypes.toList.any (Tryz.prog.loopsFrom ·)) && (Rows.fnRingSaidRow.plainKeys == Tryz.prog.plainKeys) && Rows.fnRingSaidRow.shortTexts.isNone && Tryz.prog.stopsHeard && Tryz.prog.mayEnter) = true := by kernel_rfl
theorem Wh : ((Rows.fnRingSaidRow.lifted == Tryz.prog.liftsFinal) && (Tryz.prog.make == some Rows.fnRingSaidRow.make) && (Rows.fnRingSaidRow.kinds == (if Rows.fnRingSaidRow.domain.isEmpty then [] else Tryz.f6.params.toList.map fun t => match Tryz.prog.underlying t with | some (.int k) => some k | _ => none)) && (Rows.fnRingSaidRow.pinned == Rows.fnRingSaidRow.pinnedBy) && (Rows.fnRingSaidRow.veiled == (Tryz.f6.params.toList ++ Rows.fnRingSaidSpec.plain.varTypes Tryz.prog ++ Tryz.f6.resultTypes.toList).any (Tryz.prog.veiledRec ·)) && Rows.fnRingSaidRow.veiledFits Tryz.prog Tryz.f6.params.toList (Tryz.f6.params.toList ++ Rows.fnRingSaidSpec.plain.varTypes Tryz.prog ++ Tryz.f6.resultTypes.toList)) = true := by kernel_rfl
set_option maxRecDepth 100000 in
theorem closed : joinedFacts Tryz.pinned.checked.prog 6 Tryz.f6 Rows.fnRingSaidSpec Rows.fnRingSaidRow = true := (aB (aB (aB (aB (aB (aB (aB (aB (aB (aB (aB (aB (aB (aB (aB (aB (aB (aB (aB (aB (aB (aB (aB (aB (aB (aB (aB (aB (aB (aB (aB (aL (aL (aL (aL (aL (aL (aL (aL QS)))))))) (aR (aL (aL (aL (aL (aL (aL (aL QS))))))))) (aR (aL (aL (aL (aL (aL (aL QS)))))))) (aR (aL (aL (aL (aL (aL QS))))))) (aR (aL (aL (aL (aL QS)))))) (aR (aL (aL (aL QS))))) (aR (aL (aL QS)))) (aR (aL QS))) (aR QS)) (aL (aL cf1))) (aR (aL cf1))) (aR cf1)) (aL cf2)) (aR cf2)) (aL (aL (aL Z2)))) (aR (aL (aL Z2)))) (aR (aL Z2))) (aR Z2)) (aL cf4)) (aR cf4)) (aL (aL (aL (aL (aL Wg)))))) (aR (aL (aL (aL (aL Wg)))))) (aR (aL (aL (aL Wg))))) (aR (aL (aL Wg)))) (aR (aL Wg))) (aR Wg)) (aL (aL (aL (aL (aL Wh)))))) (aR (aL (aL (aL (aL Wh)))))) (aR (aL (aL (aL Wh))))) (aR (aL (aL Wh)))) (aR (aL Wh))) (aR Wh))
theorem wrap : Tryz.f6.isWrapper Tryz.pinned.checked.prog Rows.fnRingSaidRow.wrapper Rows.fnRingSaidRow.mainSum := by unfold Func.isWrapper; first | (rw [if_pos (by decide +kernel)]; kernel_rfl) | (rw [if_neg (by decide +kernel)]; exact ⟨rfl, rfl⟩)
theorem afo : Rows.fnRingSaidRow.holds Tryz.pinned (OpenSpec.ofChange Rows.fnRingSaidSpec) :=
 OpenClaim.holds_of_wide 6 Tryz.f6 rfl rfl rfl rfl rfl rfl rfl ⟨rfl, rfl, rfl, rfl, rfl⟩ rfl rfl rfl rfl rfl (by kernel_rfl) Tryz.func6 closed
   (of_decide_eq_true (by kernel_rfl)) wrap
   (fun os started H enc _ => lifted os started H enc)
theorem proved : Rows.FnRingSaidSaid := afo
#print axioms proved
end Go.Proofs.YtlgnmloddedbaaaGreat.fnRingSaid
namespace Go.Proofs.YtlgnmloddedbaaaGreat
theorem fnRingSaid_holds : Rows.FnRingSaidSaid := fnRingSaid.proved
end Go.Proofs.YtlgnmloddedbaaaGreat
