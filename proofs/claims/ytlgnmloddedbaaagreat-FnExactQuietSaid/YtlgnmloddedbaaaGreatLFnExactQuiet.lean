/- The law FnExactQuiet answers true, whatever it is handed; what it is handed reads behind the call as it read before. There are no conditions. -/
import Derived.Test.YtlgnmloddedbaaaGreatRows
import Derived.Test.YtlgnmloddedbaaaGreatTm4
import Derived.Test.YtlgnmloddedbaaaGreatQPQuiW
import Derived.WalkKit
import Derived.ProofKit
import Derived.OpenShut
import Derived.ShutString
import Derived.ChangeOld
import Derived.Below
import Derived.SizedLaws
namespace Go.Proofs.YtlgnmloddedbaaaGreat.fnExactQuiet
open Go.ChangeShapes Go.WideShapes Go.ChangeAt Go.RowKit
set_option maxRecDepth 100000 in
theorem lifted (os:Os) (started:os.Started) (H:Type) (enc:TypeId×Value→H) :
  ReturnsInHanded {} Tryz.checked os 5 .any (Rows.fnExactQuietSpec.pre6 enc Tryz.prog Tryz.f5 Rows.fnExactQuietRow.domain false) (Rows.fnExactQuietSpec.post enc Tryz.prog Tryz.f5 false true false false):=by
 refine returnsInHanded_of_change_sized (C:=Tryz.checked) Go.TM.VI started (by kernel_rfl) Tryz.func5
  (ChangeSpec.witness6 (enc:=enc) (C:=Tryz.checked) false ⟨#[],#[.agg #[.int .i64 0,.slice none 0 0,.slice none 0 0,.slice none 0 0,.slice none 0 0,.slice none 0 0],.int .i64 0],[]⟩ 8 (by kernel_rfl) (by kernel_rfl) (by kernel_rfl) (by kernel_rfl)) ?_
 intro W base args ds gs before afc hW apY apZ _;have pU:∀(j:Nat) t v,Tryz.f5.params[j]?=some t→args[j]?=some v→Value.okWide Tryz.prog W .any base t v:=afc;have hW':=hW;have cA:=hW'.lt;obtain ⟨p,q,FT,hV,rfl,hfz,Hb⟩:=hW;have hA:DataW.TrodAll enc Tryz.prog W 0 (fun _=>true) true Tryz.f5.params.toList args.toList ds p:=FT;have UT:=hA;rw [Tryz.params5] at UT;obtain ⟨v0,vs0,d0,ds0,p0,q0,LU,rfl,hp0,h0,r0⟩:=trodAll_cons UT;obtain ⟨v1,vs1,d1,ds1,p1,q1,ap0,rfl,hp1,h1,r1⟩:=trodAll_cons r0;obtain ⟨_,rfl,_⟩:=trodAll_nil r1;obtain ⟨rfl,rfl⟩:=trodVars_none hV;refine (Go.TM.Nk Go.TM.SA Go.TM.k5 (by kernel_rfl) (fun x hx=>⟨(true,()),Go.TM.OJ x.1 x.2.1 x.2.2.1 x.2.2.2.1 x.2.2.2.2.1 x.2.2.2.2.2.1 x.2.2.2.2.2.2.1 ⟨Go.TM.fL (Go.TM.ai.1 hx).1,⟨Go.TM.pW (Go.TM.ai.1 (Go.TM.ai.1 hx).2).1,fun y hy=>Go.TM.z_i (Go.TM.wo (Go.TM.ai.1 (Go.TM.ai.1 hx).2).1 y hy)⟩,⟨Go.TM.pW (Go.TM.ai.1 (Go.TM.ai.1 (Go.TM.ai.1 hx).2).2).1,fun y hy=>Go.TM.nZ (Go.TM.wo (Go.TM.ai.1 (Go.TM.ai.1 (Go.TM.ai.1 hx).2).2).1 y hy)⟩,⟨Go.TM.pW (Go.TM.ai.1 (Go.TM.ai.1 (Go.TM.ai.1 (Go.TM.ai.1 hx).2).2).2).1,fun y hy=>Go.TM.Cd (Go.TM.wo (Go.TM.ai.1 (Go.TM.ai.1 (Go.TM.ai.1 (Go.TM.ai.1 hx).2).2).2).1 y hy)⟩,⟨Go.TM.pW (Go.TM.ai.1 (Go.TM.ai.1 (Go.TM.ai.1 (Go.TM.ai.1 (Go.TM.ai.1 hx).2).2).2).2).1,fun y hy=>Go.TM.Q5 (Go.TM.wo (Go.TM.ai.1 (Go.TM.ai.1 (Go.TM.ai.1 (Go.TM.ai.1 (Go.TM.ai.1 hx).2).2).2).2).1 y hy)⟩,⟨Go.TM.pW (Go.TM.ai.1 (Go.TM.ai.1 (Go.TM.ai.1 (Go.TM.ai.1 (Go.TM.ai.1 (Go.TM.ai.1 hx).2).2).2).2).2).1,fun y hy=>Go.TM.K2 (Go.TM.wo (Go.TM.ai.1 (Go.TM.ai.1 (Go.TM.ai.1 (Go.TM.ai.1 (Go.TM.ai.1 (Go.TM.ai.1 hx).2).2).2).2).2).1 y hy)⟩,trivial⟩,rfl⟩) (fun j t v ht hv=>pU j t v (by rwa [Array.getElem?_toList] at ht) hv) hA (fun x hx=>cA x (List.mem_append_left _ hx))).mono fun e W' ⟨he,bel,ZI⟩ => ?_
 subst he;exact ⟨_,rfl,_,_,_,[],_,[],hW',trodAll_mk1 (shut_bool Tryz.underlying4 _),ZI,rfl,bel.frame _,fun h=>by cases h⟩
theorem aL {a b:Bool} (h:(a&&b)=true):a=true:=by cases a;cases h;rfl
theorem aR {a b:Bool} (h:(a&&b)=true):b=true:=by cases a;cases h;exact h
theorem aB {a b:Bool} (h:a=true) (g:b=true):(a&&b)=true:=by rw [h,g];rfl
theorem TD:(Rows.fnExactQuietRow.wf (OpenSpec.ofChange Rows.fnExactQuietSpec)&&laidOutB Tryz.prog&&mapsRowed Tryz.prog&&Tryz.f5.params.all (Tryz.prog.readableRec ·)&&namedTie Tryz.prog Rows.fnExactQuietRow.named Rows.fnExactQuietSpec.vars&&(Rows.fnExactQuietRow.stops==[])&&(Tryz.prog.stops==[])&&(Rows.fnExactQuietRow.knobs==[])&&(Tryz.prog.stopKnobs==[]))=true:=by kernel_rfl
theorem cf1:((Rows.fnExactQuietRow.inPlace==Tryz.prog.inPlace 5)&&(Rows.fnExactQuietRow.unfollowed==Tryz.prog.unfollowed 5)&&(Rows.fnExactQuietRow.recurses==Tryz.prog.recurses 5))=true:=by kernel_rfl
theorem cf2:((Rows.fnExactQuietRow.named==Tryz.prog.varsNamed 5)&&(Rows.fnExactQuietRow.maps==(Tryz.f5.params.toList++Rows.fnExactQuietSpec.plain.varTypes Tryz.prog).any (Tryz.prog.mapsRec ·)))=true:=by kernel_rfl
theorem cf3:((Rows.fnExactQuietRow.ifaces==(Tryz.f5.params.toList++Rows.fnExactQuietSpec.plain.varTypes Tryz.prog).any (Tryz.prog.ifacesRec ·))&&(Rows.fnExactQuietRow.mapsOut==Tryz.prog.mapsAmong Tryz.f5.resultTypes.toList)&&(Rows.fnExactQuietRow.loops==(Tryz.f5.params.toList++Rows.fnExactQuietSpec.plain.varTypes Tryz.prog).any (Tryz.prog.loopsFrom ·))&&(Rows.fnExactQuietRow.wideKeys==(Tryz.f5.params.toList++Rows.fnExactQuietSpec.plain.varTypes Tryz.prog++Tryz.f5.resultTypes.toList).any (Tryz.prog.wideKeysFrom ·)))=true:=by kernel_rfl
theorem cf4:(Rows.fnExactQuietSpec.vars.all (Tryz.prog.varReadable ·)&&Tryz.f5.resultTypes.all (fun t=>Tryz.prog.readableRec t&&decide (t<Tryz.prog.types.size)))=true:=by kernel_rfl
theorem cf5:((Rows.fnExactQuietRow.ifacesOut==Tryz.f5.resultTypes.toList.any (Tryz.prog.ifacesRec ·))&&(Rows.fnExactQuietRow.loopsOut==Tryz.f5.resultTypes.toList.any (Tryz.prog.loopsFrom ·))&&(Rows.fnExactQuietRow.plainKeys==Tryz.prog.plainKeys)&&Rows.fnExactQuietRow.shortTexts.isNone&&Tryz.prog.stopsHeard&&Tryz.prog.mayEnter)=true:=by kernel_rfl
theorem cf6:((Rows.fnExactQuietRow.lifted==Tryz.prog.liftsFinal)&&(Tryz.prog.make==some Rows.fnExactQuietRow.make)&&(Rows.fnExactQuietRow.kinds==(if Rows.fnExactQuietRow.domain.isEmpty then [] else Tryz.f5.params.toList.map fun t=>match Tryz.prog.underlying t with | some (.int k)=>some k | _=>none))&&(Rows.fnExactQuietRow.pinned==Rows.fnExactQuietRow.pinnedBy)&&(Rows.fnExactQuietRow.veiled==(Tryz.f5.params.toList++Rows.fnExactQuietSpec.plain.varTypes Tryz.prog++Tryz.f5.resultTypes.toList).any (Tryz.prog.veiledRec ·))&&Rows.fnExactQuietRow.veiledFits Tryz.prog Tryz.f5.params.toList (Tryz.f5.params.toList++Rows.fnExactQuietSpec.plain.varTypes Tryz.prog++Tryz.f5.resultTypes.toList))=true:=by kernel_rfl
set_option maxRecDepth 100000 in
theorem closed:joinedFacts Tryz.pinned.checked.prog 5 Tryz.f5 Rows.fnExactQuietSpec Rows.fnExactQuietRow=true:=(aB (aB (aB (aB (aB (aB (aB (aB (aB (aB (aB (aB (aB (aB (aB (aB (aB (aB (aB (aB (aB (aB (aB (aB (aB (aB (aB (aB (aB (aB (aB (aL (aL (aL (aL (aL (aL (aL (aL TD)))))))) (aR (aL (aL (aL (aL (aL (aL (aL TD))))))))) (aR (aL (aL (aL (aL (aL (aL TD)))))))) (aR (aL (aL (aL (aL (aL TD))))))) (aR (aL (aL (aL (aL TD)))))) (aR (aL (aL (aL TD))))) (aR (aL (aL TD)))) (aR (aL TD))) (aR TD)) (aL (aL cf1))) (aR (aL cf1))) (aR cf1)) (aL cf2)) (aR cf2)) (aL (aL (aL cf3)))) (aR (aL (aL cf3)))) (aR (aL cf3))) (aR cf3)) (aL cf4)) (aR cf4)) (aL (aL (aL (aL (aL cf5)))))) (aR (aL (aL (aL (aL cf5)))))) (aR (aL (aL (aL cf5))))) (aR (aL (aL cf5)))) (aR (aL cf5))) (aR cf5)) (aL (aL (aL (aL (aL cf6)))))) (aR (aL (aL (aL (aL cf6)))))) (aR (aL (aL (aL cf6))))) (aR (aL (aL cf6)))) (aR (aL cf6))) (aR cf6))
theorem wrap:Tryz.f5.isWrapper Tryz.pinned.checked.prog Rows.fnExactQuietRow.wrapper Rows.fnExactQuietRow.mainSum:=by unfold Func.isWrapper;first | (rw [if_pos (by decide +kernel)];kernel_rfl) | (rw [if_neg (by decide +kernel)];exact ⟨rfl,rfl⟩)
theorem alo:Rows.fnExactQuietRow.holds Tryz.pinned (OpenSpec.ofChange Rows.fnExactQuietSpec):=
 OpenClaim.holds_of_wide 5 Tryz.f5 rfl rfl rfl rfl rfl rfl rfl ⟨rfl,rfl,rfl,rfl,rfl⟩ rfl rfl rfl rfl rfl (by kernel_rfl) Tryz.func5 closed
  (of_decide_eq_true (by kernel_rfl)) wrap
  (fun os started H enc _=>lifted os started H enc)
theorem proved:Rows.FnExactQuietSaid:=alo
#print axioms proved
end Go.Proofs.YtlgnmloddedbaaaGreat.fnExactQuiet
namespace Go.Proofs.YtlgnmloddedbaaaGreat
theorem fnExactQuiet_holds:Rows.FnExactQuietSaid:=fnExactQuiet.proved
end Go.Proofs.YtlgnmloddedbaaaGreat
