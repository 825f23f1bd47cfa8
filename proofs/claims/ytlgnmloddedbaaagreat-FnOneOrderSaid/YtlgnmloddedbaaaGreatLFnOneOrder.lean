/- The law FnOneOrder answers true, whatever it is handed; what it is handed reads behind the call as it read before. There are no conditions. -/
import Derived.Test.YtlgnmloddedbaaaGreatRows
import Derived.Test.YtlgnmloddedbaaaGreatTm4
import Derived.Test.YtlgnmloddedbaaaGreatCPRingD
import Derived.WalkKit
import Derived.ProofKit
import Derived.OpenShut
import Derived.ShutString
import Derived.ChangeOld
import Derived.Below
import Derived.SizedLaws
namespace Go.Proofs.YtlgnmloddedbaaaGreat.fnOneOrder
open Go.ChangeShapes Go.WideShapes Go.ChangeAt Go.RowKit
set_option maxRecDepth 100000 in
theorem lifted (os : Os) (started : os.Started) (H : Type) (enc : TypeId × Value → H) :
   ReturnsInHanded {} Tryz.checked os 7 .any (Rows.fnOneOrderSpec.pre6 enc Tryz.prog Tryz.f7 Rows.fnOneOrderRow.domain false) (Rows.fnOneOrderSpec.post enc Tryz.prog Tryz.f7 false true false false) := by
 refine returnsInHanded_of_change_sized (C := Tryz.checked) Go.TM.Vp started (by kernel_rfl) Tryz.func7
   (ChangeSpec.witness6 (enc := enc) (C := Tryz.checked) false ⟨#[], #[.slice none 0 0], []⟩ 8 (by kernel_rfl) (by kernel_rfl) (by kernel_rfl) (by kernel_rfl)) ?_
 intro W base args ds gs before adw hW anN anO _; have qN : ∀ (j : Nat) t v, Tryz.f7.params[j]? = some t → args[j]? = some v → Value.okWide Tryz.prog W .any base t v := adw; have hW' := hW; have bN := hW'.lt; obtain ⟨p, q, JF, hV, rfl, XI, JG⟩ := hW; have hA : DataW.TrodAll enc Tryz.prog W 0 (fun _ => true) true Tryz.f7.params.toList args.toList ds p := JF; have ZL := hA; rw [Tryz.params7] at ZL; obtain ⟨v0, vs0, d0, ds0, p0, q0, Dh, rfl, hp0, h0, r0⟩ := trodAll_cons ZL; obtain ⟨_, rfl, _⟩ := trodAll_nil r0; obtain ⟨rfl, rfl⟩ := trodVars_none hV; refine (Go.TM.MQ Go.TM.R2 Go.TM.k7 (by kernel_rfl) (fun x hx => ⟨(true, ()), Go.TM.Hm x.1, rfl⟩) (fun j t v ht hv => qN j t v (by rwa [Array.getElem?_toList] at ht) hv) hA (fun x hx => bN x (List.mem_append_left _ hx))).mono fun e W' ⟨he, bel, YF⟩ => ?_
 subst he; exact ⟨_, rfl, _, _, _, [], _, [], hW', trodAll_mk1 (shut_bool Tryz.underlying4 _), YF, rfl, bel.frame _, fun h => by cases h⟩
theorem aL {a b : Bool} (h : (a && b) = true) : a = true := by cases a; cases h; rfl
theorem aR {a b : Bool} (h : (a && b) = true) : b = true := by cases a; cases h; exact h
theorem aB {a b : Bool} (h : a = true) (g : b = true) : (a && b) = true := by rw [h, g]; rfl
theorem S6 : (Rows.fnOneOrderRow.wf (OpenSpec.ofChange Rows.fnOneOrderSpec) && laidOutB Tryz.prog && mapsRowed Tryz.prog && Tryz.f7.params.all (Tryz.prog.readableRec ·) && namedTie Tryz.prog Rows.fnOneOrderRow.named Rows.fnOneOrderSpec.vars && (Rows.fnOneOrderRow.stops == []) && (Tryz.prog.stops == []) && (Rows.fnOneOrderRow.knobs == []) && (Tryz.prog.stopKnobs == [])) = true := by kernel_rfl
theorem cf1 : ((Rows.fnOneOrderRow.inPlace == Tryz.prog.inPlace 7) && (Rows.fnOneOrderRow.unfollowed == Tryz.prog.unfollowed 7) && (Rows.fnOneOrderRow.recurses == Tryz.prog.recurses 7)) = true := by kernel_rfl
theorem cf2 : ((Rows.fnOneOrderRow.named == Tryz.prog.varsNamed 7) && (Rows.fnOneOrderRow.maps == (Tryz.f7.params.toList ++ Rows.fnOneOrderSpec.plain.varTypes Tryz.prog).any (Tryz.prog.mapsRec ·))) = true := by kernel_rfl
theorem cf3 : ((Rows.fnOneOrderRow.ifaces == (Tryz.f7.params.toList ++ Rows.fnOneOrderSpec.plain.varTypes Tryz.prog).any (Tryz.prog.ifacesRec ·)) && (Rows.fnOneOrderRow.mapsOut == Tryz.prog.mapsAmong Tryz.f7.resultTypes.toList) && (Rows.fnOneOrderRow.loops == (Tryz.f7.params.toList ++ Rows.fnOneOrderSpec.plain.varTypes Tryz.prog).any (Tryz.prog.loopsFrom ·)) && (Rows.fnOneOrderRow.wideKeys == (Tryz.f7.params.toList ++ Rows.fnOneOrderSpec.plain.varTypes Tryz.prog ++ Tryz.f7.resultTypes.toList).any (Tryz.prog.wideKeysFrom ·))) = true := by kernel_rfl
theorem cf4 : (Rows.fnOneOrderSpec.vars.all (Tryz.prog.varReadable ·) && Tryz.f7.resultTypes.all (fun t => Tryz.prog.readableRec t && decide (t < Tryz.prog.types.size))) = true := by kernel_rfl
theorem Zi : ((Rows.fnOneOrderRow.ifacesOut == Tryz.f7.resultTypes.toList.any (Tryz.prog.ifacesRec ·)) && (Rows.fnOneOrderRow.loopsOut == Tryz.f7.resultTypes.toList.any (Tryz.prog.loopsFrom ·)) && (Rows.fnOneOrderRow.plainKeys == Tryz.prog.plainKeys) && Rows.fnOneOrderRow.shortTexts.isNone && Tryz.prog.stopsHeard && Tryz.prog.mayEnter) = true := by kernel_rfl
theorem Zj : ((Rows.fnOneOrderRow.lifted == Tryz.prog.liftsFinal) && (Tryz.prog.make == some Rows.fnOneOrderRow.make) && (Rows.fnOneOrderRow.kinds == (if Rows.fnOneOrderRow.domain.isEmpty then [] else Tryz.f7.params.toList.map fun t => match Tryz.prog.underlying t with | some (.int k) => some k | _ => none)) && (Rows.fnOneOrderRow.pinned == Rows.fnOneOrderRow.pinnedBy) && (Rows.fnOneOrderRow.veiled == (Tryz.f7.params.toList ++ Rows.fnOneOrderSpec.plain.varTypes Tryz.prog ++ Tryz.f7.resultTypes.toList).any (Tryz.prog.veiledRec ·)) && Rows.fnOneOrderRow.veiledFits Tryz.prog Tryz.f7.params.toList (Tryz.f7.params.toList ++ Rows.fnOneOrderSpec.plain.varTypes Tryz.prog ++ Tryz.f7.resultTypes.toList)) = true := by kernel_rfl
set_option maxRecDepth 100000 in
theorem closed : joinedFacts Tryz.pinned.checked.prog 7 Tryz.f7 Rows.fnOneOrderSpec Rows.fnOneOrderRow = true := (aB (aB (aB (aB (aB (aB (aB (aB (aB (aB (aB (aB (aB (aB (aB (aB (aB (aB (aB (aB (aB (aB (aB (aB (aB (aB (aB (aB (aB (aB (aB (aL (aL (aL (aL (aL (aL (aL (aL S6)))))))) (aR (aL (aL (aL (aL (aL (aL (aL S6))))))))) (aR (aL (aL (aL (aL (aL (aL S6)))))))) (aR (aL (aL (aL (aL (aL S6))))))) (aR (aL (aL (aL (aL S6)))))) (aR (aL (aL (aL S6))))) (aR (aL (aL S6)))) (aR (aL S6))) (aR S6)) (aL (aL cf1))) (aR (aL cf1))) (aR cf1)) (aL cf2)) (aR cf2)) (aL (aL (aL cf3)))) (aR (aL (aL cf3)))) (aR (aL cf3))) (aR cf3)) (aL cf4)) (aR cf4)) (aL (aL (aL (aL (aL Zi)))))) (aR (aL (aL (aL (aL Zi)))))) (aR (aL (aL (aL Zi))))) (aR (aL (aL Zi)))) (aR (aL Zi))) (aR Zi)) (aL (aL (aL (aL (aL Zj)))))) (aR (aL (aL (aL (aL Zj)))))) (aR (aL (aL (aL Zj))))) (aR (aL (aL Zj)))) (aR (aL Zj))) (aR Zj))
theorem wrap : Tryz.f7.isWrapper Tryz.pinned.checked.prog Rows.fnOneOrderRow.wrapper Rows.fnOneOrderRow.mainSum := by unfold Func.isWrapper; first | (rw [if_pos (by decide +kernel)]; kernel_rfl) | (rw [if_neg (by decide +kernel)]; exact ⟨rfl, rfl⟩)
theorem ajG : Rows.fnOneOrderRow.holds Tryz.pinned (OpenSpec.ofChange Rows.fnOneOrderSpec) :=
 OpenClaim.holds_of_wide 7 Tryz.f7 rfl rfl rfl rfl rfl rfl rfl ⟨rfl, rfl, rfl, rfl, rfl⟩ rfl rfl rfl rfl rfl (by kernel_rfl) Tryz.func7 closed
   (of_decide_eq_true (by kernel_rfl)) wrap
   (fun os started H enc _ => lifted os started H enc)
theorem proved : Rows.FnOneOrderSaid := ajG
#print axioms proved
end Go.Proofs.YtlgnmloddedbaaaGreat.fnOneOrder
namespace Go.Proofs.YtlgnmloddedbaaaGreat
theorem fnOneOrder_holds : Rows.FnOneOrderSaid := fnOneOrder.proved
end Go.Proofs.YtlgnmloddedbaaaGreat
