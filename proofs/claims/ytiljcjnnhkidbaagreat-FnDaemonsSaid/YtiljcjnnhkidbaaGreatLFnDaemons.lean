/- The law FnDaemons answers true, whatever it is handed; what it is handed reads behind the call as it read before. There are no conditions. -/
import Derived.Test.YtiljcjnnhkidbaaGreatRows
import Derived.Test.YtiljcjnnhkidbaaGreatTm3
import Derived.Test.YtiljcjnnhkidbaaGreatOPDaemonsLaw
import Derived.WalkKit
import Derived.ProofKit
import Derived.OpenShut
import Derived.ShutString
import Derived.ChangeOld
import Derived.Below
import Derived.SizedLaws
namespace Go.Proofs.YtiljcjnnhkidbaaGreat.fnDaemons
open Go.ChangeShapes Go.WideShapes Go.ChangeAt Go.RowKit
set_option maxRecDepth 100000 in
theorem lifted (os:Os) (started:os.Started) (H:Type) (enc:TypeId×Value→H) :
  ReturnsInHanded {} Tryz.checked os 10 .any (Rows.fnDaemonsSpec.pre6 enc Tryz.prog Tryz.f10 Rows.fnDaemonsRow.domain false) (Rows.fnDaemonsSpec.post enc Tryz.prog Tryz.f10 false true false false):=by
 refine returnsInHanded_of_change_sized (C:=Tryz.checked) Go.TM.abn started (by kernel_rfl) Tryz.func10
  (ChangeSpec.witness6 (enc:=enc) (C:=Tryz.checked) false ⟨#[],#[.slice none 0 0],[]⟩ 8 (by kernel_rfl) (by kernel_rfl) (by kernel_rfl) (by kernel_rfl)) ?_
 intro W base args ds gs before akM hW awc awd _;have yd:∀(j:Nat) t v,Tryz.f10.params[j]?=some t→args[j]?=some v→Value.okWide Tryz.prog W .any base t v:=akM;have hW':=hW;have dS:=hW'.lt;obtain ⟨p,q,Ry,hV,rfl,hfz,Zg⟩:=hW;have hA:DataW.TrodAll enc Tryz.prog W 0 (fun _=>true) true Tryz.f10.params.toList args.toList ds p:=Ry;have hA1:=hA;rw [Tryz.params10] at hA1;obtain ⟨v0,vs0,d0,ds0,p0,q0,Hi,rfl,hp0,h0,r0⟩:=trodAll_cons hA1;obtain ⟨_,rfl,_⟩:=trodAll_nil r0;obtain ⟨rfl,rfl⟩:=trodVars_none hV;refine (Go.TM.R3 Go.TM.Yf Go.TM.k10 (by kernel_rfl) (fun x hx=>⟨(true,()),Go.TM.Ov x.1,rfl⟩) (fun j t v ht hv=>yd j t v (by rwa [Array.getElem?_toList] at ht) hv) hA (fun x hx=>dS x (List.mem_append_left _ hx))).mono fun e W' ⟨he,bel,afJ⟩ => ?_
 subst he;exact ⟨_,rfl,_,_,_,[],_,[],hW',trodAll_mk1 (shut_bool Tryz.underlying4 _),afJ,rfl,bel.frame _,fun h=>by cases h⟩
theorem aL {a b:Bool} (h:(a&&b)=true):a=true:=by cases a;cases h;rfl
theorem aR {a b:Bool} (h:(a&&b)=true):b=true:=by cases a;cases h;exact h
theorem aB {a b:Bool} (h:a=true) (g:b=true):(a&&b)=true:=by rw [h,g];rfl
theorem Y3:(Rows.fnDaemonsRow.wf (OpenSpec.ofChange Rows.fnDaemonsSpec)&&laidOutB Tryz.prog&&mapsRowed Tryz.prog&&Tryz.f10.params.all (Tryz.prog.readableRec ·)&&namedTie Tryz.prog Rows.fnDaemonsRow.named Rows.fnDaemonsSpec.vars&&(Rows.fnDaemonsRow.stops==[])&&(Tryz.prog.stops==[])&&(Rows.fnDaemonsRow.knobs==[])&&(Tryz.prog.stopKnobs==[]))=true:=by kernel_rfl
theorem cf1:((Rows.fnDaemonsRow.inPlace==Tryz.prog.inPlace 10)&&(Rows.fnDaemonsRow.unfollowed==Tryz.prog.unfollowed 10)&&(Rows.fnDaemonsRow.recurses==Tryz.prog.recurses 10))=true:=by kernel_rfl
theorem cf2:((Rows.fnDaemonsRow.named==Tryz.prog.varsNamed 10)&&(Rows.fnDaemonsRow.maps==(Tryz.f10.params.toList++Rows.fnDaemonsSpec.plain.varTypes Tryz.prog).any (Tryz.prog.mapsRec ·)))=true:=by kernel_rfl
theorem cf3:((Rows.fnDaemonsRow.ifaces==(Tryz.f10.params.toList++Rows.fnDaemonsSpec.plain.varTypes Tryz.prog).any (Tryz.prog.ifacesRec ·))&&(Rows.fnDaemonsRow.mapsOut==Tryz.prog.mapsAmong Tryz.f10.resultTypes.toList)&&(Rows.fnDaemonsRow.loops==(Tryz.f10.params.toList++Rows.fnDaemonsSpec.plain.varTypes Tryz.prog).any (Tryz.prog.loopsFrom ·))&&(Rows.fnDaemonsRow.wideKeys==(Tryz.f10.params.toList++Rows.fnDaemonsSpec.plain.varTypes Tryz.prog++Tryz.f10.resultTypes.toList).any (Tryz.prog.wideKeysFrom ·)))=true:=by kernel_rfl
theorem cf4:(Rows.fnDaemonsSpec.vars.all (Tryz.prog.varReadable ·)&&Tryz.f10.resultTypes.all (fun t=>Tryz.prog.readableRec t&&decide (t<Tryz.prog.types.size)))=true:=by kernel_rfl
theorem cf5:((Rows.fnDaemonsRow.ifacesOut==Tryz.f10.resultTypes.toList.any (Tryz.prog.ifacesRec ·))&&(Rows.fnDaemonsRow.loopsOut==Tryz.f10.resultTypes.toList.any (Tryz.prog.loopsFrom ·))&&(Rows.fnDaemonsRow.plainKeys==Tryz.prog.plainKeys)&&Rows.fnDaemonsRow.shortTexts.isNone&&Tryz.prog.stopsHeard&&Tryz.prog.mayEnter)=true:=by kernel_rfl
theorem cf6:((Rows.fnDaemonsRow.lifted==Tryz.prog.liftsFinal)&&(Tryz.prog.make==some Rows.fnDaemonsRow.make)&&(Rows.fnDaemonsRow.kinds==(if Rows.fnDaemonsRow.domain.isEmpty then [] else Tryz.f10.params.toList.map fun t=>match Tryz.prog.underlying t with | some (.int k)=>some k | _=>none))&&(Rows.fnDaemonsRow.pinned==Rows.fnDaemonsRow.pinnedBy)&&(Rows.fnDaemonsRow.veiled==(Tryz.f10.params.toList++Rows.fnDaemonsSpec.plain.varTypes Tryz.prog++Tryz.f10.resultTypes.toList).any (Tryz.prog.veiledRec ·))&&Rows.fnDaemonsRow.veiledFits Tryz.prog Tryz.f10.params.toList (Tryz.f10.params.toList++Rows.fnDaemonsSpec.plain.varTypes Tryz.prog++Tryz.f10.resultTypes.toList))=true:=by kernel_rfl
set_option maxRecDepth 100000 in
theorem closed:joinedFacts Tryz.pinned.checked.prog 10 Tryz.f10 Rows.fnDaemonsSpec Rows.fnDaemonsRow=true:=(aB (aB (aB (aB (aB (aB (aB (aB (aB (aB (aB (aB (aB (aB (aB (aB (aB (aB (aB (aB (aB (aB (aB (aB (aB (aB (aB (aB (aB (aB (aB (aL (aL (aL (aL (aL (aL (aL (aL Y3)))))))) (aR (aL (aL (aL (aL (aL (aL (aL Y3))))))))) (aR (aL (aL (aL (aL (aL (aL Y3)))))))) (aR (aL (aL (aL (aL (aL Y3))))))) (aR (aL (aL (aL (aL Y3)))))) (aR (aL (aL (aL Y3))))) (aR (aL (aL Y3)))) (aR (aL Y3))) (aR Y3)) (aL (aL cf1))) (aR (aL cf1))) (aR cf1)) (aL cf2)) (aR cf2)) (aL (aL (aL cf3)))) (aR (aL (aL cf3)))) (aR (aL cf3))) (aR cf3)) (aL cf4)) (aR cf4)) (aL (aL (aL (aL (aL cf5)))))) (aR (aL (aL (aL (aL cf5)))))) (aR (aL (aL (aL cf5))))) (aR (aL (aL cf5)))) (aR (aL cf5))) (aR cf5)) (aL (aL (aL (aL (aL cf6)))))) (aR (aL (aL (aL (aL cf6)))))) (aR (aL (aL (aL cf6))))) (aR (aL (aL cf6)))) (aR (aL cf6))) (aR cf6))
theorem wrap:Tryz.f10.isWrapper Tryz.pinned.checked.prog Rows.fnDaemonsRow.wrapper Rows.fnDaemonsRow.mainSum:=by unfold Func.isWrapper;first | (rw [if_pos (by decide +kernel)];kernel_rfl) | (rw [if_neg (by decide +kernel)];exact ⟨rfl,rfl⟩)
theorem arK:Rows.fnDaemonsRow.holds Tryz.pinned (OpenSpec.ofChange Rows.fnDaemonsSpec):=
 OpenClaim.holds_of_wide 10 Tryz.f10 rfl rfl rfl rfl rfl rfl rfl ⟨rfl,rfl,rfl,rfl,rfl⟩ rfl rfl rfl rfl rfl (by kernel_rfl) Tryz.func10 closed
  (of_decide_eq_true (by kernel_rfl)) wrap
  (fun os started H enc _=>lifted os started H enc)
theorem proved:Rows.FnDaemonsSaid:=arK
#print axioms proved
end Go.Proofs.YtiljcjnnhkidbaaGreat.fnDaemons
namespace Go.Proofs.YtiljcjnnhkidbaaGreat
theorem fnDaemons_holds:Rows.FnDaemonsSaid:=fnDaemons.proved
end Go.Proofs.YtiljcjnnhkidbaaGreat
