/- The law FnGiven answers true, whatever it is handed; what it is handed reads behind the call as it read before. There are no conditions. -/
import Derived.Test.YtlgnmloddedbaaaGreatRows
import Derived.Test.YtlgnmloddedbaaaGreatTm3
import Derived.Test.YtlgnmloddedbaaaGreatGPGivM
import Derived.WalkKit
import Derived.ProofKit
import Derived.OpenShut
import Derived.ShutString
import Derived.ChangeOld
import Derived.Below
import Derived.SizedLaws
namespace Go.Proofs.YtlgnmloddedbaaaGreat.fnGiven
open Go.ChangeShapes Go.WideShapes Go.ChangeAt Go.RowKit
set_option maxRecDepth 100000 in
theorem lifted (os:Os) (started:os.Started) (H:Type) (enc:TypeId×Value→H) :
  ReturnsInHanded {} Tryz.checked os 9 .any (Rows.fnGivenSpec.pre6 enc Tryz.prog Tryz.f9 Rows.fnGivenRow.domain false) (Rows.fnGivenSpec.post enc Tryz.prog Tryz.f9 false true false false):=by
 refine returnsInHanded_of_change_sized (C:=Tryz.checked) Go.TM.ad8 started (by kernel_rfl) Tryz.func9
  (ChangeSpec.witness6 (enc:=enc) (C:=Tryz.checked) false ⟨#[],#[.slice none 0 0],[]⟩ 8 (by kernel_rfl) (by kernel_rfl) (by kernel_rfl) (by kernel_rfl)) ?_
 intro W base args ds gs before aot hW aAm aAn _;have yZ:∀(j:Nat) t v,Tryz.f9.params[j]?=some t→args[j]?=some v→Value.okWide Tryz.prog W .any base t v:=aot;have hW':=hW;have dB:=hW'.lt;obtain ⟨p,q,TS,hV,rfl,hfz,hnd⟩:=hW;have hA:DataW.TrodAll enc Tryz.prog W 0 (fun _=>true) true Tryz.f9.params.toList args.toList ds p:=TS;have hA1:=hA;rw [Tryz.params9] at hA1;obtain ⟨v0,vs0,d0,ds0,p0,q0,Io,rfl,hp0,h0,r0⟩:=trodAll_cons hA1;obtain ⟨_,rfl,_⟩:=trodAll_nil r0;obtain ⟨rfl,rfl⟩:=trodVars_none hV;refine (Go.TM.Ul Go.TM.aaQ Go.TM.k9 (by kernel_rfl) (fun x hx=>⟨(true,()),Go.TM.Wi x.1,rfl⟩) (fun j t v ht hv=>yZ j t v (by rwa [Array.getElem?_toList] at ht) hv) hA (fun x hx=>dB x (List.mem_append_left _ hx))).mono fun e W' ⟨he,bel,aiJ⟩ => ?_
 subst he;exact ⟨_,rfl,_,_,_,[],_,[],hW',trodAll_mk1 (shut_bool Tryz.underlying4 _),aiJ,rfl,bel.frame _,fun h=>by cases h⟩
theorem aL {a b:Bool} (h:(a&&b)=true):a=true:=by cases a;cases h;rfl
theorem aR {a b:Bool} (h:(a&&b)=true):b=true:=by cases a;cases h;exact h
theorem aB {a b:Bool} (h:a=true) (g:b=true):(a&&b)=true:=by rw [h,g];rfl
theorem cf0:(Rows.fnGivenRow.wf (OpenSpec.ofChange Rows.fnGivenSpec)&&laidOutB Tryz.prog&&mapsRowed Tryz.prog&&Tryz.f9.params.all (Tryz.prog.readableRec ·)&&namedTie Tryz.prog Rows.fnGivenRow.named Rows.fnGivenSpec.vars&&(Rows.fnGivenRow.stops==[])&&(Tryz.prog.stops==[])&&(Rows.fnGivenRow.knobs==[])&&(Tryz.prog.stopKnobs==[]))=true:=by kernel_rfl
theorem cf1:((Rows.fnGivenRow.inPlace==Tryz.prog.inPlace 9)&&(Rows.fnGivenRow.unfollowed==Tryz.prog.unfollowed 9)&&(Rows.fnGivenRow.recurses==Tryz.prog.recurses 9))=true:=by kernel_rfl
theorem cf2:((Rows.fnGivenRow.named==Tryz.prog.varsNamed 9)&&(Rows.fnGivenRow.maps==(Tryz.f9.params.toList++Rows.fnGivenSpec.plain.varTypes Tryz.prog).any (Tryz.prog.mapsRec ·)))=true:=by kernel_rfl
theorem cf3:((Rows.fnGivenRow.ifaces==(Tryz.f9.params.toList++Rows.fnGivenSpec.plain.varTypes Tryz.prog).any (Tryz.prog.ifacesRec ·))&&(Rows.fnGivenRow.mapsOut==Tryz.prog.mapsAmong Tryz.f9.resultTypes.toList)&&(Rows.fnGivenRow.loops==(Tryz.f9.params.toList++Rows.fnGivenSpec.plain.varTypes Tryz.prog).any (Tryz.prog.loopsFrom ·))&&(Rows.fnGivenRow.wideKeys==(Tryz.f9.params.toList++Rows.fnGivenSpec.plain.varTypes Tryz.prog++Tryz.f9.resultTypes.toList).any (Tryz.prog.wideKeysFrom ·)))=true:=by kernel_rfl
theorem cf4:(Rows.fnGivenSpec.vars.all (Tryz.prog.varReadable ·)&&Tryz.f9.resultTypes.all (fun t=>Tryz.prog.readableRec t&&decide (t<Tryz.prog.types.size)))=true:=by kernel_rfl
theorem cf5:((Rows.fnGivenRow.ifacesOut==Tryz.f9.resultTypes.toList.any (Tryz.prog.ifacesRec ·))&&(Rows.fnGivenRow.loopsOut==Tryz.f9.resultTypes.toList.any (Tryz.prog.loopsFrom ·))&&(Rows.fnGivenRow.plainKeys==Tryz.prog.plainKeys)&&Rows.fnGivenRow.shortTexts.isNone&&Tryz.prog.stopsHeard&&Tryz.prog.mayEnter)=true:=by kernel_rfl
theorem cf6:((Rows.fnGivenRow.lifted==Tryz.prog.liftsFinal)&&(Tryz.prog.make==some Rows.fnGivenRow.make)&&(Rows.fnGivenRow.kinds==(if Rows.fnGivenRow.domain.isEmpty then [] else Tryz.f9.params.toList.map fun t=>match Tryz.prog.underlying t with | some (.int k)=>some k | _=>none))&&(Rows.fnGivenRow.pinned==Rows.fnGivenRow.pinnedBy)&&(Rows.fnGivenRow.veiled==(Tryz.f9.params.toList++Rows.fnGivenSpec.plain.varTypes Tryz.prog++Tryz.f9.resultTypes.toList).any (Tryz.prog.veiledRec ·))&&Rows.fnGivenRow.veiledFits Tryz.prog Tryz.f9.params.toList (Tryz.f9.params.toList++Rows.fnGivenSpec.plain.varTypes Tryz.prog++Tryz.f9.resultTypes.toList))=true:=by kernel_rfl
set_option maxRecDepth 100000 in
theorem closed:joinedFacts Tryz.pinned.checked.prog 9 Tryz.f9 Rows.fnGivenSpec Rows.fnGivenRow=true:=(aB (aB (aB (aB (aB (aB (aB (aB (aB (aB (aB (aB (aB (aB (aB (aB (aB (aB (aB (aB (aB (aB (aB (aB (aB (aB (aB (aB (aB (aB (aB (aL (aL (aL (aL (aL (aL (aL (aL cf0)))))))) (aR (aL (aL (aL (aL (aL (aL (aL cf0))))))))) (aR (aL (aL (aL (aL (aL (aL cf0)))))))) (aR (aL (aL (aL (aL (aL cf0))))))) (aR (aL (aL (aL (aL cf0)))))) (aR (aL (aL (aL cf0))))) (aR (aL (aL cf0)))) (aR (aL cf0))) (aR cf0)) (aL (aL cf1))) (aR (aL cf1))) (aR cf1)) (aL cf2)) (aR cf2)) (aL (aL (aL cf3)))) (aR (aL (aL cf3)))) (aR (aL cf3))) (aR cf3)) (aL cf4)) (aR cf4)) (aL (aL (aL (aL (aL cf5)))))) (aR (aL (aL (aL (aL cf5)))))) (aR (aL (aL (aL cf5))))) (aR (aL (aL cf5)))) (aR (aL cf5))) (aR cf5)) (aL (aL (aL (aL (aL cf6)))))) (aR (aL (aL (aL (aL cf6)))))) (aR (aL (aL (aL cf6))))) (aR (aL (aL cf6)))) (aR (aL cf6))) (aR cf6))
theorem wrap:Tryz.f9.isWrapper Tryz.pinned.checked.prog Rows.fnGivenRow.wrapper Rows.fnGivenRow.mainSum:=by unfold Func.isWrapper;first | (rw [if_pos (by decide +kernel)];kernel_rfl) | (rw [if_neg (by decide +kernel)];exact ⟨rfl,rfl⟩)
theorem awo:Rows.fnGivenRow.holds Tryz.pinned (OpenSpec.ofChange Rows.fnGivenSpec):=
 OpenClaim.holds_of_wide 9 Tryz.f9 rfl rfl rfl rfl rfl rfl rfl ⟨rfl,rfl,rfl,rfl,rfl⟩ rfl rfl rfl rfl rfl (by kernel_rfl) Tryz.func9 closed
  (of_decide_eq_true (by kernel_rfl)) wrap
  (fun os started H enc _=>lifted os started H enc)
theorem proved:Rows.FnGivenSaid:=awo
#print axioms proved
end Go.Proofs.YtlgnmloddedbaaaGreat.fnGiven
namespace Go.Proofs.YtlgnmloddedbaaaGreat
theorem fnGiven_holds:Rows.FnGivenSaid:=fnGiven.proved
end Go.Proofs.YtlgnmloddedbaaaGreat
