/- A machine over trees: an evaluator of the code, and that what it finds is so; part 2. -/
import Derived.Test.YtiljcjnnhkidbaaGreatTm1
import Derived.Laws.BytesString
import Derived.Tactics
set_option linter.unusedSimpArgs false
set_option linter.unusedVariables false
namespace Go.TM
open Go Go.RowKit
def zZ (P:Program) (T:oU):Prop:=
 ∀t,T.eq t=true→∀(c:Cz) (st:St) (w:World) (l m:List CV) (us vs:Array Value) (b:Bool) (op:BinOp) (ox oy:Operand),T.fits t l=true→p9 l m=some b→
  iQ c st w l us.toList→iQ c st w m vs.toList→∀w':World,(eqGuard op t ox oy (.agg us) (.agg vs)).run P w'=.ok () w'∧(Op.equal t (.agg us) (.agg vs)).run P w'=.ok b w'
def Ca (P:Program) (w0:World) (mu:Mu) (bQ:St) (o:Oper) (a:Act) (w:World) (kp:Bool):Prop:=
 ∀Q:Exit→Act→World→Prop,o.wp P a w (fun a' w'=>(∃c',Rel w0 mu c' bQ a' w'∧a'.tmps.size=a.tmps.size)∧(kp=true→ln w w')) Q
theorem vf (a:Act) (d:Option Tmp) (v:Value):(a.put d v).tmps.size=a.tmps.size:=by
 cases d<;>simp [Act.put]
theorem Cj {P:Program} {w0:World} {mu:Mu} {c':Cz} {bQ:St} {o:Oper} {a:Act} {w w':World} {v:Value} {kp:Bool} (hr:(execOp a.eval o).run P w=.ok (.value v) w') (h:Rel w0 mu c' bQ (a.put o.dst v) w') (hk:kp=true→ln w w') :
  Ca P w0 mu bQ o a w kp:=by
 intro Q;unfold Oper.wp;rw [hr];exact ⟨⟨c',h,vf a _ _⟩,hk⟩
theorem vg {P:Program} {s:Sem Value} {w w':World} {v:Value} (h:s.run P w=.ok v w'):(do pure (Next.value (←s)):Sem Next).run P w=.ok (.value v) w':=by
 simp [Sem.run_bind,h]
theorem M6 {w0:World} {mu:Mu} {c:Cz} {st:St} {a:Act} {w:World} (h:Rel w0 mu c st a w) (parts:Array (Nat×Operand)) :
  sy c st w (parts.toList.map fun p=>(p.1,pW st p.2)) (parts.map fun (i,x)=>(i,a.eval x)).toList:=by
 refine ⟨by simp,fun i p u hp hu => ?_⟩;simp only [List.getElem?_map,Array.toList_map] at hp hu
 cases hq:parts.toList[i]? with
 |none=>simp [hq] at hp
 |some q=>
  simp only [hq,Option.map_some,Option.some.injEq] at hp hu;subst hp hu;exact ⟨rfl,cU h q.2⟩
theorem Z3 {w0:World} {mu:Mu} {c:Cz} {st:St} {a:Act} {w:World} (h:Rel w0 mu c st a w) (x:Option Operand):M1 c st w (x.map (pW st)) (x.map a.eval):=by
 cases x with
 |none=>rfl
 |some x=>exact ⟨_,rfl,cU h x⟩
theorem Sv {P:Program} {w:World} {ok:Nat→Prop} {u:Value} {ys:List (aO (.cons (.int .u8) .nil))} (h:RdS w ok (.cons (.int .u8) .nil) u ys):(Conv.bytesToString u).run P w=.ok (.string (bytesOf ys)) w:=by
 rcases h with ⟨rfl,rfl⟩ | ⟨a,cap,rfl,hs,hr⟩
 ·rfl
 ·have key:=run_bytesToString (P:=P) w a ys.length cap (ys.map Q5) (by
   have h1:((ys.map Q5).map (Value.int .u8)).length=ys.length:=by simp
   have h2:=run_loadCells_list (P:=P) (w:=w) a ((ys.map Q5).map (Value.int .u8)) (by
    intro j v hv;rw [List.map_map,List.getElem?_map] at hv
    cases hy:ys[j]? with
    |none=>rw [hy] at hv;cases hv
    |some y=>
     rw [hy] at hv;simp only [Option.map_some,Option.some.injEq,Function.comp] at hv;subst hv;have h3:=hr j y hy;unfold fH at h3;obtain ⟨⟨v,h4,h5⟩,_⟩:=h3;have h5:=yh.1 h5;subst h5;have lO:ys≠[]:=by intro e;rw [e] at hy;simp at hy
     have O7:=hs lO;have e:a.add j=⟨a.block,a.off+j*(RT.cons (.int .u8) .nil).width,none⟩:=by
      simp only [RT.width,Nat.zero_add,Nat.mul_one];unfold Addr.add
      split
      ·rename_i h0;subst h0;obtain ⟨b,o,s⟩:=a;simp at O7;subst O7;rfl
      ·rfl
     rw [e];exact h4)
   rw [h1] at h2;exact h2)
  rw [key]
  congr 2
  unfold bytesOf;rw [List.foldl_map]
def Op.Pu:Op→Bool
 |.call { callee:=.value (.func _),.. }=>true
 |.call { callee:=.value (.tmp _),.. }=>true
 |_=>false
theorem M7 {c:Cz} {st:St} {w:World} {x:V} {v:Value} (h:C6 c st w x v):il c st w x v:=by
 cases x with
 |one _=>exact h
 |agg _=>exact h
 |p8 _=>exact h.elim
theorem Rg {P:Program} {T:oU} (hT:jZ P T) (hE:zZ P T) {S:mW} {w0:World} {mu:Mu} {c:Cz} {st:St} {a:Act} {w:World} (h:Rel w0 mu c st a w) {o:Oper} (hk:kindOk S st o .any=true)
  {bQ:St} (hv:(Q6 T S st o).val=some bQ) (hd:∀k,o.dst=some k→k<a.tmps.size):∃v,(∀w':World,(execOp a.eval o).run P w'=.ok (.value v) w')∧Rel w0 mu c bQ (a.put o.dst v) w:=by
 have one:∀(v:Value),Rel w0 mu c bQ (a.put o.dst v) w→(∀w':World,(execOp a.eval o).run P w'=.ok (.value v) w')→∃v,(∀w':World,(execOp a.eval o).run P w'=.ok (.value v) w')∧Rel w0 mu c bQ (a.put o.dst v) w:=
  fun v h1 h2=>⟨v,h2,h1⟩
 unfold Q6 at hv;unfold kindOk at hk
 cases ho:o.op with
 |move x=>
  simp only [ho,N.val,Option.some.injEq] at hv;subst hv;exact one _ (h.bR (cU h x) hd) (fun w'=>by simp [execOp,ho])
 |assign x=>
  simp only [ho,N.val,Option.some.injEq] at hv;subst hv;exact one _ (h.bR (cU h x) hd) (fun w'=>by simp [execOp,ho])
 |pick x y z=>
  simp only [ho] at hv;have hx:=cU h x
  cases hq:pW st x with
  |agg _=>simp [hq,N.val] at hv
  |p8 _=>simp [hq,N.val] at hv
  |one cx=>cases cx with
   |bool b=>
    rw [hq] at hx;have e:a.eval x=.bool b:=hx;simp only [hq] at hv;rcases Ay hv with ⟨hb,G6⟩ | ⟨hb,G6⟩
    ·simp only [N.val,Option.some.injEq] at G6;rw [←G6] at one ⊢;subst hb;exact one _ (h.bR (cU h y) hd) (fun w'=>by simp [execOp,ho,e,asBool])
    ·simp only [N.val,Option.some.injEq] at G6;rw [←G6] at one ⊢;subst hb;exact one _ (h.bR (cU h z) hd) (fun w'=>by simp [execOp,ho,e,asBool])
   |_=>simp [hq,N.val] at hv
 |build t parts=>
  simp only [ho] at hv
  cases hr:T.row t with
  |none=>simp [hr,N.val] at hv
  |some r=>cases hg:T.agg t with
   |false=>simp [hr,hg,N.val] at hv
   |true=>
    simp only [hr,hg] at hv
    cases hfc:rp T t (rk r) (parts.toList.map fun p=>(p.1,pW st p.2)) with
    |none=>simp [hfc,N.val] at hv
    |some cs=>
     simp only [hfc,N.val,Option.some.injEq] at hv;subst hv;obtain ⟨v,h1,h2⟩:=Vj hT h hr hg (M6 h parts) hfc hd;exact one v (h2) (fun w'=>by simp only [execOp,ho];exact vg (h1 w'))
 |nilCheck x=>
  simp only [ho] at hv;have hx:=cU h x
  cases hq:pW st x with
  |agg _=>simp [hq,N.val] at hv
  |p8 _=>simp [hq,N.val] at hv
  |one cx=>cases cx with
   |ptr b g off=>
    rw [hq] at hx;simp only [hq] at hv
    cases G4:fV st b g with
    |none=>simp [G4,N.val] at hv
    |some cs=>
     simp only [G4,N.val,Option.some.injEq] at hv;subst hv;have e:=hx.2.2 cs G4;exact one _ (h.bR (v:=.one (.ptr b g off)) hx hd) (fun w'=>by simp [execOp,ho,e])
   |MS a' j g i off=>
    rw [hq] at hx;simp only [hq] at hv
    cases hA:cO st a' j g with
    |none=>simp [hA,N.val] at hv
    |some A=>
     simp only [hA,N.val,Option.some.injEq] at hv;subst hv;obtain ⟨_,b,o',cap,_,e⟩:=hx.2.2 A hA;exact one _ (h.bR (v:=.one (.MS a' j g i off)) hx hd) (fun w'=>by simp [execOp,ho,e])
   |_=>simp [hq,N.val] at hv
 |binOp op t x y t2=>
  simp only [ho] at hv;obtain ⟨v,h1,h2⟩:=YG hT h (fun t ht l m us vs b op ox oy=>hE t ht c st w l m us vs b op ox oy) (ox:=x) (oy:=y) (cU h x) (cU h y) hv hd;exact one v (h2) (fun w'=>by simp only [execOp,ho];exact vg (h1 w'))
 |unOp op t x=>
  cases op with
  |not=>
   simp only [ho] at hv;have hx:=cU h x
   cases hq:pW st x with
   |agg _=>simp [hq,N.val] at hv
   |p8 _=>simp [hq,N.val] at hv
   |one cx=>cases cx with
    |bool b=>
     rw [hq] at hx;have e:a.eval x=.bool b:=hx;simp only [hq,N.val,Option.some.injEq] at hv;subst hv;exact one (.bool (!b)) (h.bR (v:=.one (.bool (!b))) rfl hd) (fun w'=>by simp [execOp,ho,e,Op.unary])
    |_=>simp [hq,N.val] at hv
  |_=>simp [ho,N.val] at hv
 |convert t1 t2 x=>
  simp only [ho] at hv;have hx:=cU h x
  split at hv
  ·rename_i k1 k2 k n h1 h2 hq;rw [hq] at hx;have e:a.eval x=.int k n:=hx;simp only [N.val,Option.some.injEq] at hv;subst hv;obtain ⟨d1,g1,_⟩:=hT.kind _ _ h1;obtain ⟨d2,g2,e2⟩:=hT.kind _ _ h2;simp only [descOf] at e2;subst e2;refine one (.int k2 (k2.wrap n)) (h.bR (v:=.one (.int k2 (k2.wrap n))) rfl hd) (fun w' => ?_);simp only [execOp,ho];refine vg ?_;simp [convert,run_underlying g1,run_underlying g2,e,Conv.intToInt]
  ·rename_i b h1 h2 hq;rw [hq] at hx;have e:a.eval x=.string b:=hx;simp only [N.val,Option.some.injEq] at hv;subst hv;obtain ⟨d1,g1,e1⟩:=hT.kind _ _ h1;obtain ⟨d2,g2,e2⟩:=hT.kind _ _ h2;simp only [descOf] at e2 e1;subst e2 e1;refine one (.string b) (h.bR (v:=.one (.str b)) rfl hd) (fun w' => ?_);simp only [execOp,ho];refine vg ?_;simp [convert,run_underlying g1,run_underlying g2,e]
  ·rename_i cx _ _ hq;rw [ho] at hk;simp only [hq] at hk
   split at hv
   ·cases cx<;>first | (simp [oV,N.val] at hv;done) | (simp at hk;done)
   ·simp [N.val] at hv
  ·simp [N.val] at hv
 |slice t x lo hi mx=>
  cases mx with
  |some _=>simp [ho,N.val] at hv
  |none=>
   simp only [ho] at hv;obtain ⟨v,h1,h2⟩:=Su hT h (cU h x) (Z3 h lo) (Z3 h hi) hv hd;exact one v (h2) (fun w'=>by simp only [execOp,ho];exact vg (h1 w'))
 |fieldAddr t x f=>
  simp only [ho] at hv;have hx:=cU h x;have place:∀(b q k:Nat),T.off t f=some k→a.eval x=.pointer (some ⟨b,q,none⟩)→∀w':World,(execOp a.eval o).run P w'=.ok (.value (.pointer (some ⟨b,q+k,none⟩))) w':=by
   intro b q k hk e w';obtain ⟨fs,JJ,n,g1,g2,g3,g4⟩:=hT.off t f k hk
   cases hi:P.info? JJ.type with
   |none=>simp [hi] at g4
   |some i=>
    simp only [hi,Option.map_some,Option.some.injEq] at g4;simp only [execOp,ho];refine vg ?_;subst g3;simp [Instr.fieldAt,run_underlying g1,g2,e,Instr.sureAddr,fieldPlace,sizeOf,typeInfo,hi,g4,Addr.add]
  split at hv
  ·rename_i b g off k hq hk;rw [hq] at hx
   cases G4:fV st b g with
   |none=>simp [G4,N.val] at hv
   |some cs=>
    simp only [G4,N.val,Option.some.injEq] at hv;subst hv;have e:=hx.2.2 cs G4;refine one (.pointer (some ⟨c.bx b,off+k,none⟩)) (h.bR (v:=.one (.ptr b g (off+k))) ⟨rfl,hx.2.1,fun rZ Pj=>rfl⟩ hd) (place _ _ k hk e)
  ·rename_i a' j g i off k hq hk;rw [hq] at hx
   cases hA:cO st a' j g with
   |none=>simp [hA,N.val] at hv
   |some A=>
    simp only [hA,N.val,Option.some.injEq] at hv;subst hv;obtain ⟨hi,b,o',cap,hl,e⟩:=hx.2.2 A hA;refine one (.pointer (some ⟨b,o'+i*A.r.width+off+k,none⟩)) (h.bR (v:=.one (.MS a' j g i (off+k))) ⟨rfl,hx.2.1,fun A' iB => ?_⟩ hd) (place _ _ k hk e);rw [hA] at iB
    cases iB
    exact ⟨hi,b,o',cap,hl,by rw [Nat.add_assoc]⟩
  ·rename_i r y off k hq hk;rw [hq] at hx;simp only [N.val,Option.some.injEq] at hv;subst hv;obtain ⟨b,o',e,h1,h2,h3⟩:=hx;exact one (.pointer (some ⟨b,o'+off+k,none⟩)) (h.bR (v:=.one (.nV r y (off+k))) ⟨b,o',by rw [Nat.add_assoc],h1,h2,h3⟩ hd) (place _ _ k hk e)
  ·rename_i r ys off k hq hk;rw [hq] at hx;simp only [N.val,Option.some.injEq] at hv;subst hv;obtain ⟨b,o',e,h1,h2,h3⟩:=hx;exact one (.pointer (some ⟨b,o'+off+k,none⟩)) (h.bR (v:=.one (.xy r ys (off+k))) ⟨b,o',by rw [Nat.add_assoc],h1,h2,h3⟩ hd) (place _ _ k hk e)
  ·simp [N.val] at hv
 |indexAddr t x i=>
  simp only [ho] at hv;obtain ⟨v,h1,h2⟩:=Sq hT h (cU h x) (cU h i) hv hd;exact one v (h2) (fun w'=>by simp only [execOp,ho];exact vg (h1 w'))
 |index t x i=>
  simp only [ho] at hv;have hx:=cU h x;have hi:=cU h i
  split at hv
  ·rename_i s k n h1 Vn MZ;rw [Vn] at hx;rw [MZ] at hi;have e1:a.eval x=.string s:=hx;have e2:a.eval i=.int k n:=hi;obtain ⟨Ye,hv⟩:=jI hv;obtain ⟨hn1,hv⟩:=jI hv;have Ye:=of_decide_eq_true Ye;have hn1:=of_decide_eq_true hn1;simp only [N.val,Option.some.injEq] at hv;subst hv;obtain ⟨d1,g1,e3⟩:=hT.kind _ _ h1;simp only [descOf] at e3;subst e3;have dM:n.toNat<s.size:=by omega
   have hb:s[n.toNat]?=some s[n.toNat]:=getElem?_pos s n.toNat dM;refine one (.int .u8 (Lq s n)) (h.bR (v:=.one (.int .u8 (Lq s n))) rfl hd) (fun w' => ?_);simp only [execOp,ho];refine vg ?_;simp [Instr.index,e1,e2,asIntOf,run_underlying g1,Ye,hb,Lq]
  ·simp [N.val] at hv
 |field t x f=>
  simp only [ho] at hv;have hx:=cU h x
  cases hq:pW st x with
  |one _=>simp [hq,N.val] at hv
  |p8 _=>simp [hq,N.val] at hv
  |agg cs=>
   rw [hq] at hx;simp only [hq] at hv
   cases I4:T.off t f with
   |none=>simp [I4,N.val] at hv
   |some k=>
    simp only [I4] at hv;obtain ⟨h1,hv⟩:=j9 hv
    cases hn:nth cs k with
    |none=>simp [hn,N.val] at hv
    |some u=>
     simp only [hn,N.val,Option.some.injEq] at hv;subst hv;obtain ⟨vs,e,hl,he⟩:=hx;rw [nv] at hn;have dM:k<vs.size:=by rw [←Array.length_toList,←hl];exact (List.getElem?_eq_some_iff.1 hn).1
     have hg:vs[k]?=some vs[k]:=Array.getElem?_eq_getElem dM;obtain ⟨fs,JJ,d1,g1,g2,g3,g4⟩:=hT.one t f h1;obtain ⟨fs',auj,_,g1',g2',g5,_⟩:=hT.off t f k I4;rw [g1] at g1';injection g1' with g1';injection g1' with g1';subst g1';rw [g2] at g2';injection g2' with g2';subst g2';refine one vs[k] (h.bR (v:=.one u) (he k u _ hn (by rw [Array.getElem?_toList];exact hg)) hd) (fun w' => ?_);simp only [execOp,ho];refine vg ?_;have aaT:(isAgg JJ.type).run P w'=.ok false w':=by
      unfold isAgg;rw [Sem.run_bind,run_underlying g3 w']
      cases d1<;>simp_all [TypeDesc.isRow]
     simp [Instr.field,e,run_underlying g1,g2,part,asAgg,aaT,g5,hg]
 |extract t i=>
  simp only [ho] at hv;have hx:=cU h t
  cases hq:pW st t with
  |one _=>simp [hq,N.val] at hv
  |agg _=>simp [hq,N.val] at hv
  |p8 vs=>
   rw [hq] at hx;simp only [hq] at hv
   cases hn:nth vs i with
   |none=>simp [hn,N.val] at hv
   |some u=>
    simp only [hn,N.val,Option.some.injEq] at hv;subst hv;obtain ⟨us,e,hl,he⟩:=hx;rw [nv] at hn;have dM:i<us.size:=by rw [←hl];exact (List.getElem?_eq_some_iff.1 hn).1
    have hg:us[i]?=some us[i]:=Array.getElem?_eq_getElem dM;refine one us[i] (h.bR (M7 (he i u _ hn hg)) hd) (fun w' => ?_);simp only [execOp,ho];refine vg ?_;simp [Instr.extract,e,hg]
 |call cl=>
  obtain ⟨callee,args,Yg⟩:=cl
  cases callee with
  |invoke r n=>simp [ho,N.val] at hv
  |value x=>
   cases x with
   |func f=>simp [ho] at hk
   |tmp f=>simp [ho] at hk
   |_=>simp [ho,N.val] at hv
  |builtin b=>
   have hx:=fun x=>cU h x
   simp only [ho] at hv;have Rh:∀x y,args.toList=[x,y]→args = #[x,y]:=fun x y e=>by rw [←Array.toArray_toList (xs:=args),e]
   split at hv
   ·rename_i x t ha ht;have ha:args = #[x]:=by rw [←Array.toArray_toList (xs:=args),ha]
    have ht:Yg = #[t]:=by rw [←Array.toArray_toList (xs:=Yg),ht]
    subst ha ht;obtain ⟨v,h1,h2⟩:=YH (ty:=o.type) hT h (cU h x) hv hd;exact one v (h2) (fun w'=>by simp only [execOp,ho];simp [resolve,invoke,builtin,Sem.run_bind,h1 w'])
   ·rename_i x y t u ha ht;simp [ho] at hk
   ·rename_i ts x y ha;have ha:=Rh x y ha;subst ha
    split at hv
    ·rename_i k p l q Vn MZ;have e1:=cU h x;have e2:=cU h y;rw [Vn] at e1;rw [MZ] at e2;have e1:a.eval x=.int k p:=e1;have e2:a.eval y=.int l q:=e2;simp only [N.val,Option.some.injEq] at hv;subst hv;exact one _ (h.bR (v:=.one (.int k (if q<p then q else p))) (u:=.int k (if q<p then q else p)) rfl hd) (fun w'=>by simp only [execOp,ho];simp [resolve,invoke,builtin,Sem.run_bind,Builtin.min_,Builtin.min2,e1,e2])
    ·simp [N.val] at hv
   ·rename_i ts x y ha;have ha:=Rh x y ha;subst ha
    split at hv
    ·rename_i k p l q Vn MZ;have e1:=cU h x;have e2:=cU h y;rw [Vn] at e1;rw [MZ] at e2;have e1:a.eval x=.int k p:=e1;have e2:a.eval y=.int l q:=e2;simp only [N.val,Option.some.injEq] at hv;subst hv;exact one _ (h.bR (v:=.one (.int k (if q>p then q else p))) (u:=.int k (if q>p then q else p)) rfl hd) (fun w'=>by simp only [execOp,ho];simp [resolve,invoke,builtin,Sem.run_bind,Builtin.max_,Builtin.max2,e1,e2])
    ·simp [N.val] at hv
   ·rename_i ts x y z ha;have ha:args = #[x,y,z]:=by rw [←Array.toArray_toList (xs:=args),ha]
    subst ha
    split at hv
    ·rename_i k p l q m s Vn MZ hq3;have e1:=cU h x;have e2:=cU h y;have e3:=cU h z;rw [Vn] at e1;rw [MZ] at e2;rw [hq3] at e3;have e1:a.eval x=.int k p:=e1;have e2:a.eval y=.int l q:=e2;have e3:a.eval z=.int m s:=e3;simp only [N.val,Option.some.injEq] at hv;subst hv;exact one _ (h.bR (v:=.one (.int k (if s<(if q<p then q else p) then s else (if q<p then q else p)))) (u:=.int k (if s<(if q<p then q else p) then s else (if q<p then q else p))) rfl hd) (fun w'=>by simp only [execOp,ho];simp [resolve,invoke,builtin,Sem.run_bind,Builtin.min_,Builtin.min2,e1,e2,e3])
    ·simp [N.val] at hv
   ·simp [N.val] at hv
 |_=>simp [ho] at hk
theorem aa5 {P:Program} {T:oU} (hT:jZ P T) (hE:zZ P T) {S:mW} {w0:World} {mu:Mu} {c:Cz} {st:St} {a:Act} {w:World} (h:Rel w0 mu c st a w) {o:Oper} (hf:Op.Pu o.op=false)
  {bQ:St} (hv:(Q6 T S st o).val=some bQ) (hd:∀k,o.dst=some k→k<a.tmps.size):Ca P w0 mu bQ o a w (kindOk S st o .one):=by
 by_cases hp:kindOk S st o .any=true
 ·obtain ⟨v,h1,h2⟩:=Rg hT hE h hp hv hd;exact Cj (h1 w) h2 (fun _=>ln.refl w)
 have one:∀(v:Value) (w':World),(∃c',Rel w0 mu c' bQ (a.put o.dst v) w')→ln w w'→(execOp a.eval o).run P w=.ok (.value v) w'→Ca P w0 mu bQ o a w (kindOk S st o .one):=
  fun v w' ⟨c',h'⟩ hk hr=>Cj hr h' (fun _=>hk)
 unfold kindOk at hp;unfold Q6 at hv
 cases ho:o.op with
 |alloc t=>
  simp only [ho] at hv
  cases hr:T.row t with
  |none=>simp [hr,N.val] at hv
  |some r=>
   simp only [hr] at hv;obtain ⟨k,s0,hk,mY,rfl⟩:=FL hv;obtain ⟨i,z,hi,hz,UJ⟩:=hT.row t r hr;refine one _ _ ⟨_,hk▸h.kP (ty:=t) mY (hd k hk) (AA UJ)⟩ (ln.alloc _ _) ?_;simp [execOp,ho,Instr.alloc,zeroValue,typeInfo,hi,hz,newVar,newRow]
 |box t x=>
  simp only [ho] at hv
  cases hn:T.cells t with
  |none=>simp [hn,N.val] at hv
  |some n=>
   simp only [hn] at hv;obtain ⟨hc,hv⟩:=j9 hv;rw [Bool.and_eq_true] at hc;obtain ⟨Ax,_⟩:=(cU h x).cells hc.1
   cases lP:(bif T.cap t then gi (pW st x).cells else none) with
   |none=>
    rw [lP] at hv;obtain ⟨k,s0,hk,mY,rfl⟩:=FL hv;refine one _ _ ⟨_,hk▸h.kP (ty:=t) mY (hd k hk) Ax⟩ (ln.alloc _ _) ?_;simp [execOp,ho,Instr.box,newVar,newRow]
   |some p=>
    obtain ⟨r,y⟩:=p;rw [lP] at hv;simp only [N.val,Option.some.injEq] at hv;subst hv;have hp2:gi (pW st x).cells=some ⟨r,y⟩:=by
     cases hcp:T.cap t with
     |true=>rw [hcp] at lP;exact lP
     |false=>rw [hcp] at lP;cases lP
    have Hb:c.ok w.heap.size:=by
     unfold Cz.ok
     cases hq:c.own w.heap.size with
     |none=>rfl
     |some l=>exact absurd (h.owned _ l hq).1 (Nat.lt_irrefl _)
    have Ci:il c st (w.alloc (.cells (a.eval x).cells t (0,0))) (.one (.nV r y 0)) (.pointer (some ⟨w.heap.size,0,none⟩)):=
     ⟨w.heap.size,0,rfl,by simp,Hb,pO (Fw.grow h _).stays _ hp2 _ 0 Ax fun i v hv=>by
      rw [Nat.zero_add];exact M3 (heap_alloc_new w _) hv⟩
    refine one (.pointer (some ⟨w.heap.size,0,none⟩)) (w.alloc (.cells (a.eval x).cells t (0,0))) ⟨c,(h.grow _).bR Ci hd⟩ (ln.alloc _ _) ?_;simp [execOp,ho,Instr.box,newVar,newRow]
 |makeFunc fn first Ao=>
  cases fn with
  |func g=>
   simp only [ho] at hv;obtain ⟨amt,hv⟩:=j9 hv
   cases hc:B8 st Ao.toList with
   |none=>simp [hc,N.val] at hv
   |some p=>
    obtain ⟨G3,rs,x⟩:=p;rw [hc] at hv;simp only [N.val,Option.some.injEq] at hv;subst hv;obtain ⟨c1,h1,h2,h3⟩:=M4 _ h hc;have hf0:first = #[]:=by simpa using amt
    subst hf0;have Ci:il c1 G3 w (.one (.fn g rs [x])) (.func (.func g) #[] (Ao.map a.eval)):=
     ⟨_,rfl,fun y hy=>by
      simp at hy;subst hy;rw [Array.toList_map];exact h3⟩
    exact one _ w ⟨c1,h1.bR Ci hd⟩ (ln.refl w) (by simp [execOp,ho,Instr.makeFunc])
  |_=>simp [ho,N.val] at hv
 |buildSlice t len parts=>
  simp only [ho] at hv;obtain ⟨v,w',h1,YK,c',h2⟩:=G8 hT h (M6 h parts) hv hd;exact one v w' ⟨c',h2⟩ YK (by simp only [execOp,ho];exact vg h1)
 |makeSlice t l cp=>
  simp only [ho] at hv;obtain ⟨v,w',h1,YK,c',h2⟩:=Vh hT h (cU h l) (cU h cp) hv hd;exact one v w' ⟨c',h2⟩ YK (by simp only [execOp,ho];exact vg h1)
 |load t x=>
  simp only [ho] at hv;obtain ⟨v,h1,h2⟩:=MT hT h (cU h x) hv hd;exact one v w ⟨c,h2⟩ (ln.refl w) (by simp only [execOp,ho];exact vg (h1 w (ln.refl w)))
 |store t x y=>
  simp only [ho] at hv
  cases z7:o.dst with
  |some _=>simp [z7,N.val] at hv
  |none=>
   simp only [z7] at hv;obtain ⟨w',h1,c',h2⟩:=Sm hT h (cU h x) (cU h y) hv;intro Q;have hr:(execOp a.eval o).run P w=.ok .skip w':=by simp [execOp,ho,Sem.run_bind,h1]
   unfold Oper.wp;rw [hr];refine ⟨⟨c',?_,vf a _ _⟩,fun hk => ?_⟩
   ·rw [z7];exact h2
   ·simp [kindOk,ho] at hk
 |call cl=>
  obtain ⟨callee,args,Yg⟩:=cl
  cases callee with
  |invoke r n=>simp [ho,N.val] at hv
  |value x=>
   cases x with
   |func f=>simp [ho,Op.Pu] at hf
   |tmp f=>simp [ho,Op.Pu] at hf
   |_=>simp [ho,N.val] at hv
  |builtin b=>
   simp only [ho] at hv;have Rh:∀x y,args.toList=[x,y]→args = #[x,y]:=fun x y e=>by rw [←Array.toArray_toList (xs:=args),e]
   split at hv
   ·simp [ho] at hp
   ·rename_i x y t u ha ht;obtain ⟨htu,G6⟩:=j9 hv;have htu:=Nat.eq_of_beq_eq_true htu;subst htu;have ha:=Rh x y ha;have ht:Yg = #[t,t]:=by rw [←Array.toArray_toList (xs:=Yg),ht]
    subst ha ht;obtain ⟨v,w',h1,c',h2⟩:=Po (ty:=o.type) hT h (cU h x) (cU h y) G6 hd;exact Cj (c':=c') (by simp only [execOp,ho];simp [resolve,invoke,builtin,Sem.run_bind,h1]) h2 (fun hk=>by simp [kindOk,ho] at hk)
   ·simp [ho] at hp
   ·simp [ho] at hp
   ·simp [ho] at hp
   ·simp [N.val] at hv
 |move _=>simp [ho] at hp
 |assign _=>simp [ho] at hp
 |pick _ _ _=>simp [ho] at hp
 |build _ _=>simp [ho] at hp
 |nilCheck _=>simp [ho] at hp
 |binOp _ _ _ _ _=>simp [ho] at hp
 |unOp _ _ _=>simp [ho] at hp
 |convert t1 t2 x=>
  simp only [ho] at hv hp;have hx:=cU h x
  split at hv
  ·rename_i hq;simp [hq] at hp
  ·rename_i hq;simp [hq] at hp
  ·rename_i cx h1 h2 hq
   split at hv
   ·rename_i b he;rw [hq] at hx;obtain ⟨ys,h3,h4⟩:=FK h hx hv;simp only [N.val,Option.some.injEq] at h3;subst h3;obtain ⟨e,i,z,g1,g2,g3,g4,g5,_⟩:=hT.elem _ _ _ he;obtain ⟨d2,q2,e2⟩:=hT.kind _ _ h2;simp only [descOf] at e2;subst e2;have hu8:P.underlying e=some (.int .u8):=hT.u8 t1 e b he g1;have hr:=Sv (P:=P) h4;refine one (.string (bytesOf ys)) w ⟨c,h.bR (v:=.one (.str (bytesOf ys))) rfl hd⟩ (ln.refl w) ?_;simp only [execOp,ho];refine vg ?_;rcases h4 with ⟨hn,_⟩ | ⟨a0,cap,hn,_⟩
    ·rw [hn] at hr ⊢;rw [run_convert_bytes_string w t1 t2 e none 0 0 g1 hu8 q2];exact hr
    ·rw [hn] at hr ⊢;rw [run_convert_bytes_string w t1 t2 e (some a0) _ cap g1 hu8 q2];exact hr
   ·simp [N.val] at hv
  ·simp [N.val] at hv
 |slice _ _ _ _ _=>simp [ho] at hp
 |fieldAddr _ _ _=>simp [ho] at hp
 |indexAddr _ _ _=>simp [ho] at hp
 |index _ _ _=>simp [ho] at hp
 |extract _ _=>simp [ho] at hp
 |field _ _ _=>simp [ho] at hp
 |_=>simp [ho,N.val] at hv
end Go.TM
namespace Go.TM
open Go Go.RowKit
def wG (P:Program) (T:oU) (S:mW) (w0:World) (mu:Mu) (n:Nat):Prop:=
 ∀ {c:Cz} {st bQ:St} {a:Act} {w:World} {o:Oper},Rel w0 mu c st a w→a.tmps.size=n→(∀k,o.dst=some k→k<n)→(Q6 T S st o).val=some bQ→Ca P w0 mu bQ o a w (kindOk S st o .one)
theorem Hc (a:Act) (d:Nat) (v:Value) (hd:d<a.tmps.size) (h:a.eval (.tmp d)=v):a.put (some d) v=a:=by
 obtain ⟨tm,df⟩:=a;simp only [Act.put,Act.mk.injEq,and_true];simp only [Act.eval,Array.getD_eq_getD_getElem?,Array.getElem?_eq_getElem hd,Option.getD_some] at h;apply Array.ext
 ·simp
 ·intro i h1 h2;rw [Array.getElem_setIfInBounds h2]
  split
  ·rename_i e;subst e;exact h.symm
  ·rfl
theorem Bz {w0:World} {mu:Mu} {c:Cz} {st:St} {a:Act} {w:World} (h:Rel w0 mu c st a w) {d:Nat} {b:Bool} (hg:dN st d=.one (.bool b)) :
  d<a.tmps.size∧a.eval (.tmp d)=.bool b:=by
 have h1:=h.jj d;rw [hg] at h1;have h1:a.eval (.tmp d)=.bool b:=h1;refine ⟨?_,h1⟩;rcases Nat.lt_or_ge d a.tmps.size with h2 | h2
 ·exact h2
 ·simp [Act.eval,Array.getD_eq_getD_getElem?,Array.getElem?_eq_none h2,undef] at h1
theorem Rel.ahD {w0:World} {mu:Mu} {c:Cz} {st:St} {a:Act} {w:World} (h:Rel w0 mu c st a w) {d:Nat} {b:Bool} (hg:dN st d=.one (.bool b)) :
  Rel w0 mu c (TM.bR st (some d) (.one (.bool b))) a w:=by
 obtain ⟨h1,h2⟩:=Bz h hg;have:=h.bR (d:=some d) (v:=.one (.bool b)) (u:=.bool b) rfl (fun t e=>by cases e;exact h1)
 rwa [Hc a d _ h1 h2] at this
theorem Hd {ops:Array Oper} {a:Act} {j d:Nat} {b:Bool} (hj:(nth ops.toList j).bind (·.dst)=some d) (hd:d<a.tmps.size) (h:a.eval (.tmp d)=.bool b):yielded ops a.tmps j=some b:=by
 rw [nv,Array.getElem?_toList] at hj;unfold yielded;rw [hj];simp only [Act.eval,Array.getD_eq_getD_getElem?,Array.getElem?_eq_getElem hd,Option.getD_some] at h;simp [Array.getElem?_eq_getElem hd,h]
theorem BA:(st:St)→(d:Nat)→{v:V}→dN st d=v→TM.bR st (some d) v=st
 | [],_,_,_=>rfl
 |s::l,0,v,h=>by
  have h:s.v=v:=h;subst h;rfl
 |s::l,d+1,v,h=>congrArg (s :: ·) (BA l d h)
theorem M8 {S:mW} {st:St} {o:Oper} {d:Nat} {b:Bool} {k:Kd} (h:dN st d=.one (.bool b)):kindOk S (TM.bR st (some d) (.one (.bool b))) o k=kindOk S st o k:=by
 rw [BA st d h]
theorem BB (c:Cz) (st:St) (w:World):il c st w (.p8 []) undef:=⟨#[],rfl,rfl,fun i x y hx=>by simp at hx⟩
theorem Cb {ops:Array Oper} {a:Act} {j d:Nat} (hj:(nth ops.toList j).bind (·.dst)=some d) (h:a.eval (.tmp d)=undef):yielded ops a.tmps j=none:=by
 rw [nv,Array.getElem?_toList] at hj;unfold yielded;rw [hj];simp only [Act.eval,Array.getD_eq_getD_getElem?] at h
 cases ht:a.tmps[d]? with
 |none=>simp [ht]
 |some v=>
  rw [ht] at h;simp only [Option.getD_some] at h;subst h;simp [ht,undef]
theorem He {w0:World} {mu:Mu} {c:Cz} {st:St} {a:Act} {w:World} (h:Rel w0 mu c st a w) {d:Nat} (hg:dN st d=.p8 []):a.eval (.tmp d)=undef:=by
 have h1:=h.jj d;rw [hg] at h1;obtain ⟨vs,e,hl,_⟩:=h1;have:vs = #[]:=Array.eq_empty_of_size_eq_zero hl.symm;rw [e,this];rfl
theorem M9 {P:Program} {T:oU} {S:mW} {w0:World} {mu:Mu} {n:Nat} (I9:wG P T S w0 mu n) {c:Cz} {st bQ:St} {a:Act} {w:World} {ops:Array Oper} {o:Oper} (h:Rel w0 mu c st a w) (hn:a.tmps.size=n)
  (hd:∀k,o.dst=some k→k<n) (hv:(EC T S ops.toList st o).val=some bQ) :
  (Region.wanted o (yielded ops a.tmps)=true∧Ca P w0 mu bQ o a w (kindOk S st o .one))∨(Region.wanted o (yielded ops a.tmps)=false∧Rel w0 mu c bQ (a.put o.dst undef) w):=by
 unfold EC at hv;unfold Region.wanted
 cases hg:o.guard with
 |none=>
  simp only [hg] at hv ⊢;exact .inl ⟨trivial,I9 h hn hd hv⟩
 |some p=>
  obtain ⟨j,want⟩:=p;simp only [hg] at hv ⊢
  cases hj:(nth ops.toList j).bind (·.dst) with
  |none=>simp [hj,N.val] at hv
  |some d=>
   simp only [hj] at hv
   split at hv
   ·rename_i b Vo;obtain ⟨h1,h2⟩:=Bz h Vo;have hy:=Hd (ops:=ops) hj h1 h2;rw [hy];have hk:=h.ahD Vo;have yes:(Q6 T S (TM.bR st (some d) (.one (.bool b))) o).val=some bQ→Ca P w0 mu bQ o a w (kindOk S st o .one):=fun e=>(M8 Vo)▸I9 hk hn hd e
    have no:(N.done (TM.bR (TM.bR st (some d) (.one (.bool b))) o.dst (.p8 []))).val=some bQ→Rel w0 mu c bQ (a.put o.dst undef) w:=by
     intro e;simp only [N.val,Option.some.injEq] at e;subst e;exact hk.bR (BB _ _ _) (fun k I4=>by rw [hn];exact hd k I4)
    rcases Ay hv with ⟨hb,G6⟩ | ⟨hb,G6⟩
    ·subst hb
     cases want
     ·exact .inr ⟨rfl,no G6⟩
     ·exact .inl ⟨rfl,yes G6⟩
    ·subst hb
     cases want
     ·exact .inl ⟨rfl,yes G6⟩
     ·exact .inr ⟨rfl,no G6⟩
   ·rename_i Vo;simp only [N.val,Option.some.injEq] at hv;subst hv;rw [Cb (ops:=ops) hj (He h Vo)];exact .inr ⟨by cases want<;>rfl,h.bR (BB _ _ _) (fun k I4=>by rw [hn];exact hd k I4)⟩
   ·simp [N.val] at hv
def Ck (n:Nat) (ops:List Oper):Bool:=ops.all fun o=>match o.dst with | some k=>Nat.blt k n | none=>true
theorem EF {n:Nat} {ops:List Oper} (h:Ck n ops=true) {o:Oper} (ho:o∈ops):∀k,o.dst=some k→k<n:=by
 intro k hk;have:=List.all_eq_true.1 h o ho;rw [hk] at this;exact Nat.le_of_ble_eq_true this
def Next {R:Type} (w0:World) (mu:Mu) (n:Nat) (r:R) (k:St→Option R) (K:Act→World→Prop):Prop:=
 ∀ {c:Cz} {st:St} {a:Act} {w:World},Rel w0 mu c st a w→a.tmps.size=n→k st=some r→K a w
theorem LI {R:Type} {P:Program} {T:oU} {S:mW} {w0:World} {mu:Mu} {n:Nat} (I9:wG P T S w0 mu n) {ops:Array Oper} {Q:Exit→Act→World→Prop} {k:St→Option R} {r:R} (hk:Next w0 mu n r k (Q .normal)) :
  (l:List Oper)→Ck n l=true→{c:Cz}→{st:St}→{a:Act}→{w:World}→Rel w0 mu c st a w→a.tmps.size=n→Yv T S ops.toList l st k=some r→wpList P ops Q l a w
 | [],_,_,_,_,_,h,hn,hv=>hk h hn hv
 |o::l,hl,c,st,a,w,h,hn,hv=>by
  unfold Yv at hv;rw [N.fold_eq] at hv;obtain ⟨bQ,h1,h2⟩:=Option.bind_eq_some_iff.1 hv;have hd:=EF hl (o:=o) List.mem_cons_self;have By:Ck n l=true:=by
   unfold Ck at hl ⊢;rw [List.all_cons,Bool.and_eq_true] at hl;exact hl.2
  refine wpList_step fun K hK => ?_
  rcases M9 I9 h hn hd h1 with ⟨hw,hs⟩ | ⟨hw,hs⟩
  ·rw [if_pos hw];refine Oper.wp_mono (fun a' w' ⟨⟨c',hr,py⟩,_⟩=>hK a' w' ?_) (hs Q);exact LI I9 hk l By hr (py.trans hn) h2
  ·rw [if_neg (by rw [hw];decide)];exact hK _ _ (LI I9 hk l By hs ((vf _ _ _).trans hn) h2)
def Ex.go:Ex→Exit
 |.normal=>.normal
 |.exit n=>.exit n
 |.ret=>.ret
def Ri {R:Type} (w0:World) (mu:Mu) (n:Nat) (r:R) (k:Ex→St→Option R) (Q:Exit→Act→World→Prop):Prop:=
 ∀ {e:Ex} {c:Cz} {st:St} {a:Act} {w:World},Rel w0 mu c st a w→a.tmps.size=n→k e st=some r→Q e.go a w
def im (n:Nat):Code→Bool
 |.region _ ops _=>Ck n ops.toList
 |.seq a b=>im n a&&im n b
 |.cond _ a b=>im n a&&im n b
 |.block _ a=>im n a
 |.loop a=>im n a
 |_=>true
def pz {R:Type} (P:Program) (w0:World) (mu:Mu) (n:Nat) (L:pM R) (r:R) (id:Nat) (b:Code):Prop:=
 ∀ {k:Ex→St→Option R} {Q:Exit→Act→World→Prop},Ri w0 mu n r k Q→∀ {c:Cz} {st:St} {a:Act} {w:World},Rel w0 mu c st a w→a.tmps.size=n→
  L id b st k=some r→(Code.block id (.loop b)).wp P Q a w
def fO (ok:Nat→Code→Prop):Code→Prop
 |.seq a b=>fO ok a∧fO ok b
 |.cond _ a b=>fO ok a∧fO ok b
 |.block id (.loop b)=>ok id b
 |.block _ a=>fO ok a
 |_=>True
def uN (R:Type) (P:Program) (T:oU) (S:mW) (D:nb) (w0:World) (mu:Mu) (n:Nat) (ok:Nat→Array Oper→Prop):Prop:=
 ∀ {id:Nat} {ops:Array Oper} {Q:Exit→Act→World→Prop} {k:St→Option R} {r:R},ok id ops→Ck n ops.toList=true→Next w0 mu n r k (Q .normal)→∀ {c:Cz} {st:St} {a:Act} {w:World},Rel w0 mu c st a w→a.tmps.size=n→
  w5 T S ops.toList (D id) st k=some r→(Code.region id ops true).wp P Q a w
def gj (ok:Nat→Array Oper→Prop):Code→Prop
 |.region id ops true=>ok id ops
 |.seq a b=>gj ok a∧gj ok b
 |.cond _ a b=>gj ok a∧gj ok b
 |.block _ (.loop _)=>True
 |.block _ a=>gj ok a
 |_=>True
theorem Dk {R:Type} {P:Program} {T:oU} {S:mW} {D:nb} {L:pM R} {w0:World} {mu:Mu} {n:Nat} {r:R} {ok:Nat→Array Oper→Prop} (I9:wG P T S w0 mu n) (hD:uN R P T S D w0 mu n ok) :
  (cd:Code)→im n cd=true→fO (pz P w0 mu n L r) cd→gj ok cd→{k:Ex→St→Option R}→{Q:Exit→Act→World→Prop}→Ri w0 mu n r k Q→
  {c:Cz}→{st:St}→{a:Act}→{w:World}→Rel w0 mu c st a w→a.tmps.size=n→gR T S D L cd st k=some r→cd.wp P Q a w:=by
 intro cd
 induction cd with
 |skip=>
  intro _ _ _ k Q hk c st a w h hn hv;unfold gR at hv;exact wp_skip (hk h hn hv)
 |region id ops draw=>
  intro hd hL hw k Q hk c st a w h hn hv
  cases draw with
  |false=>
   unfold gR at hv;exact wp_region_list (LI I9 (Q:=Q) (k:=fun bQ=>k .normal bQ) (fun h1 h2 h3=>hk h1 h2 h3) ops.toList hd h hn hv)
  |true=>
   unfold gR at hv;exact hD hw hd (k:=fun bQ=>k .normal bQ) (fun h1 h2 h3=>hk h1 h2 h3) h hn hv
 |seq x y ihx ihy=>
  intro hd hL hw k Q hk c st a w h hn hv;unfold gR at hv;unfold im at hd;rw [Bool.and_eq_true] at hd;refine wp_seq (ihx hd.1 hL.1 hw.1 (fun {e} {c} {st} {a} {w} h1 h2 h3 => ?_) h hn hv)
  cases e with
  |normal=>exact ihy hd.2 hL.2 hw.2 hk h1 h2 h3
  |exit m=>exact hk h1 h2 h3
  |ret=>exact hk h1 h2 h3
 |cond x y z ihy ihz=>
  intro hd hL hw k Q hk c st a w h hn hv;unfold im at hd;rw [Bool.and_eq_true] at hd
  cases x with
  |tmp t=>
   unfold gR at hv
   split at hv
   ·rename_i b hg;obtain ⟨_,h2⟩:=Bz h hg;have hkn:=h.ahD hg
    cases b with
    |true=>exact wp_cond_true h2 (ihy hd.1 hL.1 hw.1 hk hkn hn hv)
    |false=>exact wp_cond_false h2 (ihz hd.2 hL.2 hw.2 hk hkn hn hv)
   ·cases hv
  |_=>unfold gR at hv;cases hv
 |block id b ih=>
  intro hd hL hw k Q hk c st a w h hn hv
  by_cases hb:∃b',b=.loop b'
  ·obtain ⟨b',rfl⟩:=hb;unfold gR at hv;exact hL hk h hn hv
  ·have w7:gR T S D L b st (fun e bQ=>match e with
     |.exit n=>bif Nat.beq n id then k .normal bQ else k (.exit n) bQ
     |e=>k e bQ)=some r:=by
    cases b with
    |loop b'=>exact absurd ⟨b',rfl⟩ hb
    |_=>unfold gR at hv;exact hv
   have hw':gj ok b:=by
    cases b with
    |loop b'=>exact absurd ⟨b',rfl⟩ hb
    |_=>unfold gj at hw;exact hw
   have hL':fO (pz P w0 mu n L r) b:=by
    cases b with
    |loop b'=>exact absurd ⟨b',rfl⟩ hb
    |_=>unfold fO at hL;exact hL
   refine wp_block (ih hd hL' hw' (fun {e} {c} {st} {a} {w} h1 h2 h3 => ?_) h hn w7)
   cases e with
   |normal=>exact hk h1 h2 h3
   |ret=>exact hk h1 h2 h3
   |exit m=>
    simp only at h3;unfold Exit.inBlock;simp only [Ex.go]
    cases hm:Nat.beq m id with
    |true=>
     rw [hm] at h3;rw [if_pos (Nat.eq_of_beq_eq_true hm)];exact hk h1 h2 h3
    |false=>
     rw [hm] at h3;rw [if_neg (Nat.ne_of_beq_eq_false hm)];exact hk (e:=.exit m) h1 h2 h3
 |exit id=>
  intro _ _ _ k Q hk c st a w h hn hv;unfold gR at hv;exact wp_exit (hk h hn hv)
 |ret=>
  intro _ _ _ k Q hk c st a w h hn hv;unfold gR at hv;exact wp_ret (hk h hn hv)
 |_=>
  intro _ _ _ k Q hk c st a w h hn hv;unfold gR at hv
  cases hv
end Go.TM
namespace Go.TM
open Go Go.RowKit
def OwnAt (c:Cz) (w:World) (l:Lb) (lc:Loc) (A:nu) (v:Value):Prop:=
 v.oneCell'=true∧qW lc A.r.width 0 A.xs.length v∧A.own=true∧
 match lc with
 |.nil=>A.xs=[]
 |.at b off cap=>c.own b=some l∧A.xs.length≤cap∧(∃cur ty,w.heap[b]?=some (.cells cur ty (0,0))∧off+cap*A.r.width≤cur.size)∧
   ey c w l A b off
def cF (c:Cz) (w:World) (f:Nat→Lb):(j:Nat)→List OV→List Value→Prop
 |_,[],vs=>vs=[]
 |j,.int k n::os,vs=>∃l,vs=.int k n::l∧cF c w f (j+1) os l
 |j,.bool b::os,vs=>∃l,vs=.bool b::l∧cF c w f (j+1) os l
 |j,.str s::os,vs=>∃l,vs=.string s::l∧cF c w f (j+1) os l
 |j,.gw::os,vs=>∃l,vs=.slice none 0 0::l∧cF c w f (j+1) os l
 |j,.shr r xs::os,vs=>∃v l,vs=v::l∧ev w c.ok (.sl r) v xs∧cF c w f (j+1) os l
 |j,.own A::os,vs=>∃v l,vs=v::l∧(∃lc,OwnAt c w (f j) lc A v)∧cF c w f (j+1) os l
 |j,.nV r xs::os,vs=>∃v l,vs=v::l∧JH w c.ok r v xs∧cF c w f (j+1) os l
 |j,.fn g rs xs::os,vs=>∃v l,vs=v::l∧FnAt w c.ok g rs v xs∧cF c w f (j+1) os l
def JR (c:Cz) (w:World) (i:Nat) (os:List OV) (v:Value):Prop:=
 ∃rh vs ty,v=.pointer (some ⟨rh,0,none⟩)∧c.own rh=some (.xz i)∧w.heap[rh]?=some (.cells vs ty (0,0))∧cF c w (.dE i) 0 os vs.toList
def Vp (c:Cz) (w:World) (i:Nat) (lc:Nat→Loc) (j:Nat) (o:OV) (u:Value):Prop:=
 match o with
 |.own A=>OwnAt c w (.dE i j) (lc j) A u
 |.gw=>lc j=.nil
 |_=>True
def wH (c:Cz) (w:World) (i:Nat) (lc:Nat→Loc):AV→Value→Prop
 |.val false os,v=>cF c w (.dE i) 0 os [v]
 |.val true os,v=>∃vs,v=.agg vs∧cF c w (.dE i) 0 os vs.toList
 |.io A,v=>OwnAt c w (.dE i 0) (lc 0) A v
 |.box os,v=>JR c w i os v
 |.dZ os,v=>∃vs,v=.agg vs∧cF c w (.dE i) 0 os vs.toList∧∀j o u,os[j]?=some o→vs.toList[j]?=some u→Vp c w i lc j o u
def Cl (c:Cz) (w:World) (lc:Nat→Nat→Loc):(i:Nat)→List AV→List Value→Prop
 |_,[],vs=>vs=[]
 |i,a::as,vs=>∃v l,vs=v::l∧wH c w i (lc i) a v∧Cl c w lc (i+1) as l
def Rj (c:Cz) (w:World) (i:Nat) (lc:Nat→Loc) (os:List OV) (us:List Value) (As:List (Option nu)):Prop:=
 ∀j A,os[j]?=some (.own A)→∃B u,nth As j=some (some B)∧us[j]?=some u∧B.r.width=A.r.width∧B.xs.length=A.xs.length∧OwnAt c w (.dE i j) (lc j) B u
def kC (c:Cz) (w:World) (lc:Nat→Nat→Loc):(i:Nat)→List AV→List Value→List XV→Prop
 |_,[],_,xs=>xs=[]
 |_,_::_,[],_=>False
 |i,.val _ _::as,_::vs,xs=>kC c w lc (i+1) as vs xs
 |i,.io A::as,v::vs,xs=>∃B l,xs=.io B::l∧B.r.width=A.r.width∧B.xs.length=A.xs.length∧OwnAt c w (.dE i 0) (lc i 0) B v∧kC c w lc (i+1) as vs l
 |i,.box _::as,v::vs,xs=>∃os l,xs=.box os::l∧JR c w i os v∧kC c w lc (i+1) as vs l
 |i,.dZ os::as,v::vs,xs=>∃As l,xs=.dZ As::l∧(∃us,v=.agg us∧Rj c w i (lc i) os us.toList As)∧kC c w lc (i+1) as vs l
def oB (c:Cz) (w:World):(j:Nat)→List RV→List Value→Prop
 |_,[],vs=>vs=[]
 |j,.one o::rs,vs=>∃v l,vs=v::l∧cF c w .kO j [o] [v]∧oB c w (j+1) rs l
 |j,.agg os::rs,vs=>∃us l,vs=.agg us::l∧cF c w .kO j os us.toList∧oB c w (j+os.length) rs l
 |j,.ptr os::rs,vs=>∃v l,vs=v::l∧(∃rh us ty,v=.pointer (some ⟨rh,0,none⟩)∧c.own rh=some (.kO j)∧w.heap[rh]?=some (.cells us ty (0,0))∧cF c w .kO (j+1) os us.toList)∧oB c w (j+(os.length+1)) rs l
def vh (c:Cz) (w:World) (rs:List RV) (v:Value):Prop:=
 (∃r,rs=[r]∧oB c w 0 [r] [v])∨(rs.length≠1∧∃vs,v=.tuple vs∧oB c w 0 rs vs.toList)
structure FN (w0:World) (mu:Mu) (c:Cz) (w:World):Prop where
 owned:∀b l,c.own b=some l→b<w.heap.size∧(l=.out∨w0.heap.size≤b∨mu.m b)
 free:∀b,b<w0.heap.size→c.own b=none→mu.m b∨mu.ok b
 kept:w.os=w0.os∧w.tape=w0.tape∧w.output=w0.output∧w0.heap.size≤w.heap.size
 old:∀k,k<w0.heap.size→¬mu.m k→w.heap[k]?=w0.heap[k]?
def Lb.nw:Lb→Bool
 |.dE _ _=>true
 |.xz _=>true
 |_=>false
structure Handed (c:Cz) (w:World) (mu:Mu):Prop where
 m:∀b,mu.m b↔∃l,c.own b=some l∧l.nw=true
 ok:∀b,mu.ok b↔c.own b=none
 lt:∀b l,c.own b=some l→b<w.heap.size
 lb:∀b l,c.own b=some l→l=.out∨l.nw=true
def FnOk (P:Program) (f:FuncId) (Gs:Al):Prop:=
 ∀(c:Cz) (w:World) (mu:Mu) (lc:Nat→Nat→Loc) (ga:List AV) (args:Array Value) (A:Ans) (x:aO A.r),Handed c w mu→Cl c w lc 0 ga args.toList→Gs ga=some A→A.o=some x→
  Calls P f args w fun e w'=>∃v,e=.returned v∧∃c',FN w mu c' w'∧vh c' w' (A.res x).outs v∧kC c' w' lc 0 ga args.toList (A.res x).exts
mutual
theorem ev.plain {w:World} {ok C5:Nat→Prop}:(t:Ty)→(v:Value)→(x:den t)→RT.p7 (.cons t .nil)=false→ev w ok t v x→ev w C5 t v x
 |.int _,_,_,_,h=>by unfold ev at h ⊢;exact h
 |.bool,_,_,_,h=>by unfold ev at h ⊢;exact h
 |.str,_,_,_,h=>by unfold ev at h ⊢;exact h
 |.sl _,_,_,hs,_=>by simp [RT.p7] at hs
theorem fH.plain {w:World} {ok C5:Nat→Prop}:(r:RT)→(b off:Nat)→(x:aO r)→r.p7=false→fH w ok r b off x→fH w C5 r b off x
 |.nil,_,_,_,_,_=>by unfold fH;trivial
 |.cons t r,b,off,x,hs,h=>by
  unfold fH at h ⊢;obtain ⟨⟨v,h1,h2⟩,h3⟩:=h;refine ⟨⟨v,h1,ev.plain t v x.1 ?_ h2⟩,fH.plain r b (off+1) x.2 ?_ h3⟩
  ·cases t<;>simp_all [RT.p7]
  ·cases t<;>simp_all [RT.p7]
end
structure Pass (c c':Cz) (pd:Lb→Prop):Prop where
 dE:∀b l,pd l→c.own b=some l→c'.own b=some l
 ok:∀b,c.ok b→c'.ok b
theorem OwnAt.pass {c c':Cz} {w:World} {l:Lb} {lc:Loc} {A:nu} {v:Value} (hp:∀b,c.own b=some l→c'.own b=some l) (ho:(∀b,c.ok b→c'.ok b)∨(!A.r.p7)=true) (h:OwnAt c w l lc A v):OwnAt c' w l lc A v:=by
 unfold OwnAt at h ⊢;obtain ⟨h1,h2,h3,h4⟩:=h;refine ⟨h1,h2,h3,?_⟩
 cases lc with
 |nil=>exact h4
 |«at» b off cap=>
  obtain ⟨g1,g2,g3,g4⟩:=h4;refine ⟨hp b g1,g2,g3,?_⟩
  by_cases YF:A.md=.sh∧A.r.p7=false
  ·exact (ey.sh YF.1).2 fun i x hx=>fH.plain _ _ _ _ YF.2 ((ey.sh YF.1).1 g4 i x hx)
  ·refine g4.go (fun hm => ?_) rfl (fun _ k hk=>⟨rfl,hp k hk⟩);rcases ho with ho | ho
   ·exact ⟨Nat.le_refl _,fun _ _ _=>rfl,fun b _ h=>ho b h⟩
   ·exact absurd ⟨hm,by simpa using ho⟩ YF
theorem cF.pass {c c':Cz} {w:World} {f:Nat→Lb} (hp:∀b j,c.own b=some (f j)→c'.own b=some (f j)):(os:List OV)→((∀b,c.ok b→c'.ok b)∨os.all OV.plain=true)→(j:Nat)→(vs:List Value)→cF c w f j os vs→cF c' w f j os vs
 | [],_,_,_,h=>h
 |.int k n::os,ho,j,vs,h=>by
  obtain ⟨l,h1,h2⟩:=h;exact ⟨l,h1,cF.pass hp os (ho.imp id fun h=>by simp at h;simpa using h.2) (j+1) l h2⟩
 |.bool k::os,ho,j,vs,h=>by
  obtain ⟨l,h1,h2⟩:=h;exact ⟨l,h1,cF.pass hp os (ho.imp id fun h=>by simp at h;simpa using h.2) (j+1) l h2⟩
 |.str k::os,ho,j,vs,h=>by
  obtain ⟨l,h1,h2⟩:=h;exact ⟨l,h1,cF.pass hp os (ho.imp id fun h=>by simp at h;simpa using h.2) (j+1) l h2⟩
 |.gw::os,ho,j,vs,h=>by
  obtain ⟨l,h1,h2⟩:=h;exact ⟨l,h1,cF.pass hp os (ho.imp id fun h=>by simp at h;simpa using h.2) (j+1) l h2⟩
 |.shr r xs::os,ho,j,vs,h=>by
  obtain ⟨v,l,h1,h2,h3⟩:=h;refine ⟨v,l,h1,?_,cF.pass hp os (ho.imp id fun h=>by simp at h;simpa using h.2) (j+1) l h3⟩;rcases ho with ho | ho
  ·exact ev.stays ⟨Nat.le_refl _,fun _ _ _=>rfl,fun b _ h=>ho b h⟩ _ _ _ h2
  ·simp [OV.plain] at ho
 |.nV r xs::os,ho,j,vs,h=>by
  obtain ⟨v,l,h1,h2,h3⟩:=h;refine ⟨v,l,h1,?_,cF.pass hp os (ho.imp id fun h=>by simp at h;simpa using h.2) (j+1) l h3⟩;rcases ho with ho | ho
  ·exact h2.stays ⟨Nat.le_refl _,fun _ _ _=>rfl,fun b _ h=>ho b h⟩
  ·simp [OV.plain] at ho
 |.fn g rs xs::os,ho,j,vs,h=>by
  obtain ⟨v,l,h1,h2,h3⟩:=h;refine ⟨v,l,h1,?_,cF.pass hp os (ho.imp id fun h=>by simp at h;simpa using h.2) (j+1) l h3⟩;rcases ho with ho | ho
  ·exact h2.stays ⟨Nat.le_refl _,fun _ _ _=>rfl,fun b _ h=>ho b h⟩
  ·simp [OV.plain] at ho
 |.own A::os,ho,j,vs,h=>by
  obtain ⟨v,l,h1,⟨lc,h2⟩,h3⟩:=h;refine ⟨v,l,h1,⟨lc,h2.pass (fun b=>hp b j) (ho.imp id fun h => ?_)⟩,cF.pass hp os (ho.imp id fun h=>by simp at h;simpa using h.2) (j+1) l h3⟩;rw [List.all_cons,Bool.and_eq_true] at h;exact h.1
theorem JR.pass {c c':Cz} {w:World} {i:Nat} {os:List OV} {v:Value} (hb:∀b,c.own b=some (.xz i)→c'.own b=some (.xz i)) (hp:∀b j,c.own b=some (.dE i j)→c'.own b=some (.dE i j)) (ho:(∀b,c.ok b→c'.ok b)∨os.all OV.plain=true) (h:JR c w i os v):JR c' w i os v:=by
 obtain ⟨rh,vs,ty,h1,h2,h3,h4⟩:=h;exact ⟨rh,vs,ty,h1,hb _ h2,h3,cF.pass hp os ho 0 _ h4⟩
theorem oB.pass {c c':Cz} {w:World} (hp:∀b j,c.own b=some (.kO j)→c'.own b=some (.kO j)):(rs:List RV)→((∀b,c.ok b→c'.ok b)∨rs.all (fun o=>o.Aj.all OV.plain)=true)→(j:Nat)→(vs:List Value)→oB c w j rs vs→oB c' w j rs vs
 | [],_,_,_,h=>h
 |.one o::rs,ho,j,vs,h=>by
  obtain ⟨v,l,h1,h2,h3⟩:=h;exact ⟨v,l,h1,cF.pass hp [o] (ho.imp id fun h=>by simp [RV.Aj] at h;simpa using h.1) _ _ h2,oB.pass hp rs (ho.imp id fun h=>by simp at h;simpa using h.2) _ _ h3⟩
 |.agg os::rs,ho,j,vs,h=>by
  obtain ⟨v,l,h1,h2,h3⟩:=h;exact ⟨v,l,h1,cF.pass hp os (ho.imp id fun h=>by simp [RV.Aj] at h;simpa using h.1) _ _ h2,oB.pass hp rs (ho.imp id fun h=>by simp at h;simpa using h.2) _ _ h3⟩
 |.ptr os::rs,ho,j,vs,h=>by
  obtain ⟨v,l,h1,⟨rh,us,ty,g1,g2,g3,g4⟩,h3⟩:=h;exact ⟨v,l,h1,⟨rh,us,ty,g1,hp _ _ g2,g3,cF.pass hp os (ho.imp id fun h=>by simp [RV.Aj] at h;simpa using h.1.2) _ _ g4⟩,oB.pass hp rs (ho.imp id fun h=>by simp at h;simpa using h.2) _ _ h3⟩
theorem vh.pass {c c':Cz} {w:World} (hp:∀b j,c.own b=some (.kO j)→c'.own b=some (.kO j)) {rs:List RV} (ho:(∀b,c.ok b→c'.ok b)∨rs.all (fun o=>o.Aj.all OV.plain)=true) {v:Value} (h:vh c w rs v):vh c' w rs v:=by
 rcases h with ⟨r,h1,h2⟩ | ⟨h1,vs,h2,h3⟩
 ·subst h1;exact .inl ⟨r,rfl,oB.pass hp _ ho _ _ h2⟩
 ·exact .inr ⟨h1,vs,h2,oB.pass hp _ ho _ _ h3⟩
theorem Rj.pass {c c':Cz} {w:World} {i:Nat} {lc:Nat→Loc} {os:List OV} {us:List Value} {As:List (Option nu)} (hp:∀b j,c.own b=some (.dE i j)→c'.own b=some (.dE i j)) (ho:(∀b,c.ok b→c'.ok b)∨XV.plain (.dZ As)=true) (h:Rj c w i lc os us As):Rj c' w i lc os us As:=by
 intro j A hA;obtain ⟨B,u,h1,h2,h3,h4,h5⟩:=h j A hA;refine ⟨B,u,h1,h2,h3,h4,h5.pass (fun b=>hp b j) (ho.imp id fun h => ?_)⟩;have hm:some B∈As:=by rw [nv] at h1;exact List.mem_of_getElem? h1
 have:=List.all_eq_true.1 h _ hm;simpa using this
theorem kC.pass {c c':Cz} {w:World} {lc:Nat→Nat→Loc}:(as:List AV)→(i:Nat)→(hb:∀b k,i≤k→c.own b=some (.xz k)→c'.own b=some (.xz k))→(hp:∀b k j,i≤k→c.own b=some (.dE k j)→c'.own b=some (.dE k j))→(vs:List Value)→(xs:List XV)→((∀b,c.ok b→c'.ok b)∨xs.all XV.plain=true)→kC c w lc i as vs xs→kC c' w lc i as vs xs
 | [],_,_,_,_,_,_,h=>h
 |_::_,_,_,_,[],_,_,h=>h.elim
 |.val _ _::as,i,hb,hp,_::vs,xs,ho,h=>kC.pass as (i+1) (fun b k hk=>hb b k (by omega)) (fun b k j hk=>hp b k j (by omega)) vs xs ho h
 |.io A::as,i,hb,hp,v::vs,xs,ho,h=>by
  obtain ⟨B,l,h1,h2,h3,h4,h5⟩:=h;subst h1;refine ⟨B,l,rfl,h2,h3,h4.pass (fun b=>hp b i 0 (Nat.le_refl _)) (ho.imp id fun h=>by rw [List.all_cons,Bool.and_eq_true] at h;exact h.1),kC.pass as (i+1) (fun b k hk=>hb b k (by omega)) (fun b k j hk=>hp b k j (by omega)) vs l (ho.imp id fun h=>by simp at h;simpa using h.2) h5⟩
 |.dZ _::as,i,hb,hp,v::vs,xs,ho,h=>by
  obtain ⟨As,l,h1,⟨us,h2,h3⟩,h4⟩:=h;subst h1;refine ⟨As,l,rfl,⟨us,h2,h3.pass (fun b j=>hp b i j (Nat.le_refl _)) (ho.imp id fun h=>by rw [List.all_cons,Bool.and_eq_true] at h;exact h.1)⟩,kC.pass as (i+1) (fun b k hk=>hb b k (by omega)) (fun b k j hk=>hp b k j (by omega)) vs l (ho.imp id fun h=>by rw [List.all_cons,Bool.and_eq_true] at h;exact h.2) h4⟩
 |.box _::as,i,hb,hp,v::vs,xs,ho,h=>by
  obtain ⟨os,l,h1,h2,h3⟩:=h;subst h1;refine ⟨os,l,rfl,h2.pass (fun b=>hb b i (Nat.le_refl _)) (fun b j=>hp b i j (Nat.le_refl _)) (ho.imp id fun h=>by simp [XV.plain] at h;simpa using h.1),kC.pass as (i+1) (fun b k hk=>hb b k (by omega)) (fun b k j hk=>hp b k j (by omega)) vs l (ho.imp id fun h=>by simp at h;simpa using h.2) h3⟩
end Go.TM
namespace Go.TM
open Go Go.RowKit
def Cz.map (c:Cz) (ρ:Lb→Option Lb):Cz:={ bx:=c.bx,lc:=c.lc,own:=fun b=>(c.own b).bind ρ }
theorem Cz.w8 {c:Cz} {ρ:Lb→Option Lb} {b:Nat} (h:c.ok b):(c.map ρ).ok b:=by
 unfold Cz.ok Cz.map at *;simp [h]
theorem Cz.map_some {c:Cz} {ρ:Lb→Option Lb} {b:Nat} {l:Lb} (h:(c.map ρ).own b=some l):∃k,c.own b=some k∧ρ k=some l:=by
 unfold Cz.map at h;exact Option.bind_eq_some_iff.1 h
theorem Cz.nX {c:Cz} {ρ:Lb→Option Lb} {b:Nat} {l:Lb} (h:c.own b=some l):(c.map ρ).own b=ρ l:=by
 unfold Cz.map;simp [h]
theorem ey.map {c:Cz} {w:World} {l l':Lb} {A:nu} {b off:Nat} (h:ey c w l A b off) {ρ:Lb→Option Lb} (hρ:ρ l=some l'):ey (c.map ρ) w l' A b off:=
 h.go (fun _=>⟨Nat.le_refl _,fun _ _ _=>rfl,fun b _ hb=>Cz.w8 hb⟩) rfl (fun _ _ hk=>⟨rfl,(Cz.nX hk).trans hρ⟩)
theorem Vq {c:Cz} {w:World} {s j:Nat} {A:nu} (h:fJ c w s j A) (ho:A.own=true) {vw:View} {u:Value} (h1:u.oneCell'=true) (hu:qW (c.lc s j) A.r.width vw.lo (vw.app A.xs).length u)
  {ρ:Lb→Option Lb} {l:Lb} (hρ:ρ (.sp s j)=some l) (I5:A.md.is .sh=true∨vw.isFull=true):∃lc,OwnAt (c.map ρ) w l lc { A with xs:=vw.app A.xs } u:=by
 cases hl:c.lc s j with
 |nil=>
  unfold qW at hu;rw [hl] at hu;exact ⟨.nil,h1,hu,ho,List.length_eq_zero_iff.1 hu.2⟩
 |«at» b off cap=>
  unfold qW at hu;rw [hl] at hu;obtain ⟨a,k,rfl,hk,C8,ha⟩:=hu;unfold fJ at h;rw [hl] at h;obtain ⟨h0,_,⟨cur,ty,h3,h4⟩,h5⟩:=h;rw [ho] at h0;refine ⟨.at b (off+vw.lo*A.r.width) k,h1,⟨a,k,rfl,hk,by omega,by simpa using ha⟩,ho,(Cz.nX h0).trans hρ,hk,⟨cur,ty,h3,?_⟩,?_⟩
  ·have:(vw.lo+k)*A.r.width≤cap*A.r.width:=Nat.mul_le_mul_right _ C8;rw [Nat.add_mul] at this;show off+vw.lo*A.r.width+k*A.r.width≤cur.size;omega
  ·have hmm:A.md=.sh∨A.md≠.sh:=Classical.em _;rcases hmm with hm | hm
   ·refine ey.Vd hm fun i x hi => ?_
    have:=(ey.sh hm).1 h5 _ x (View.Bx vw A.xs hi);have e:off+vw.lo*A.r.width+i*A.r.width=off+(vw.lo+i)*A.r.width:=by rw [Nat.add_mul];omega
    rw [e];exact fH.stays ⟨Nat.le_refl _,fun _ _ _=>rfl,fun b _ hb=>Cz.w8 hb⟩ _ _ _ x rfl this
   ·have hf:vw=.full:=by
     rcases I5 with I5 | I5
     ·exact absurd (Md.ya.1 I5) hm
     ·cases vw with
      |full=>rfl
      |«from» _=>cases I5
      |sub _ _=>cases I5
    subst hf;have:=h5.go (c':=c.map ρ) (w':=w) (l':=l) (fun e=>absurd e hm) rfl (fun _ k hk=>⟨rfl,(Cz.nX hk).trans hρ⟩);simpa [View.lo,View.app] using this
theorem iQ.Z4 {c:Cz} {st:St} {w:World} {x:CV} {cs:List CV} {vs:List Value} (h:iQ c st w (x::cs) vs):∃v l,vs=v::l∧qd c st w x v∧iQ c st w cs l:=by
 obtain ⟨h1,h2⟩:=h
 cases vs with
 |nil=>simp at h1
 |cons v l=>exact ⟨v,l,rfl,h2 0 x v rfl rfl,by simpa using h1,fun i y u hy hu=>h2 (i+1) y u (by simpa using hy) (by simpa using hu)⟩
theorem pA {α:Type} (l m:List α) (n:Nat):nth (l++m) n=if n<l.length then nth l n else nth m (n-l.length):=by
 simp only [nv]
 by_cases h:n<l.length
 ·rw [if_pos h,List.getElem?_append_left h]
 ·rw [if_neg h,List.getElem?_append_right (by omega)]
theorem Dl {w0:World} {mu:Mu} {c:Cz} {st:St} {a:Act} {w:World} (h:Rel w0 mu c st a w) {s j g:Nat} {A:nu} (hA:cO st s j g=some A):fJ c w s j A:=by
 obtain ⟨sl,h1,_,h3⟩:=dK hA;exact h.bU s j sl A h1 h3
theorem Dm {st:St} {own:Bool} {q:RT} {y:aO q} {off:Nat} {o:OV} {u:Option Lb} {r:List (Nat×Nat)} (h:lj st own (.nV q y off)=some (o,u,r)):o=.nV q [y]∧u=none∧r=[]:=by
 unfold lj at h;obtain ⟨_,h⟩:=bJ h;simp only [Option.some.injEq,Prod.mk.injEq] at h;exact ⟨h.1.symm,h.2.1.symm,h.2.2.symm⟩
theorem BC {st:St} {own:Bool} {q:RT} {y:List (aO q)} {off:Nat} {o:OV} {u:Option Lb} {r:List (Nat×Nat)} (h:lj st own (.xy q y off)=some (o,u,r)):o=.nV q y∧u=none∧r=[]:=by
 unfold lj at h;obtain ⟨_,h⟩:=bJ h;simp only [Option.some.injEq,Prod.mk.injEq] at h;exact ⟨h.1.symm,h.2.1.symm,h.2.2.symm⟩
theorem Rk {w0:World} {mu:Mu} {c:Cz} {st:St} {a:Act} {w:World} (h:Rel w0 mu c st a w) {own:Bool} {ρ:Lb→Option Lb} {f:Nat→Lb} {j:Nat} {x:CV} {v:Value} (hx:qd c st w x v) {o:OV} {u:Option Lb} {r:List (Nat×Nat)}
  (hc:lj st own x=some (o,u,r)) (hu:∀l,u=some l→ρ l=some (f j)) (hr:∀p∈r,ρ (.sp p.1 p.2)=none) {os:List OV} {l:List Value} (hh:cF (c.map ρ) w f (j+1) os l):cF (c.map ρ) w f j (o::os) (v::l):=by
 cases x with
 |int k n=>
  simp only [lj,Option.some.injEq,Prod.mk.injEq] at hc;obtain ⟨rfl,rfl,_⟩:=hc;have e:v=.int k n:=hx;exact ⟨l,by rw [e],hh⟩
 |bool n=>
  simp only [lj,Option.some.injEq,Prod.mk.injEq] at hc;obtain ⟨rfl,rfl,_⟩:=hc;have e:v=.bool n:=hx;exact ⟨l,by rw [e],hh⟩
 |str n=>
  simp only [lj,Option.some.injEq,Prod.mk.injEq] at hc;obtain ⟨rfl,rfl,_⟩:=hc;have e:v=.string n:=hx;exact ⟨l,by rw [e],hh⟩
 |gw=>
  simp only [lj,Option.some.injEq,Prod.mk.injEq] at hc;obtain ⟨rfl,rfl,_⟩:=hc;have e:v=.slice none 0 0:=hx;exact ⟨l,by rw [e],hh⟩
 |shr q xs=>
  simp only [lj,Option.some.injEq,Prod.mk.injEq] at hc;obtain ⟨rfl,rfl,_⟩:=hc;have e:ev w c.ok (.sl q) v xs:=hx;exact ⟨v,l,rfl,ev.stays ⟨Nat.le_refl _,fun _ _ _=>rfl,fun b _ hb=>Cz.w8 hb⟩ _ _ _ e,hh⟩
 |nn q xs=>
  simp only [lj,Option.some.injEq,Prod.mk.injEq] at hc;obtain ⟨rfl,rfl,_⟩:=hc;have e:ev w c.ok (.sl q) v xs:=hx.1;exact ⟨v,l,rfl,ev.stays ⟨Nat.le_refl _,fun _ _ _=>rfl,fun b _ hb=>Cz.w8 hb⟩ _ _ _ e,hh⟩
 |ref s k g vw=>
  unfold lj at hc;simp only at hc
  cases hA:cO st s k g with
  |none=>simp [hA] at hc
  |some A=>
   simp only [hA] at hc;have ha:=Dl h hA;have hs:=hx.2.2 A hA;have ahE:A.md.Sa=false:=by cases hm:A.md<;>simp_all [Md.Sa]
   have Lt:=ahE;simp only [ahE,cond_false] at hc
   cases hb:(own&&A.own&&(A.md.is .sh||vw.isFull)) with
   |true=>
    simp only [hb,cond_true,Option.some.injEq,Prod.mk.injEq] at hc;obtain ⟨rfl,rfl,rfl⟩:=hc;rw [Bool.and_eq_true,Bool.and_eq_true,Bool.or_eq_true] at hb;obtain ⟨lc,g1⟩:=Vq ha hb.1.2 hx.1 hs (hu _ rfl) hb.2;exact ⟨v,l,rfl,⟨lc,g1⟩,hh⟩
   |false=>
    simp only [hb,cond_false,Option.some.injEq,Prod.mk.injEq] at hc;obtain ⟨rfl,rfl,rfl⟩:=hc;refine ⟨v,l,rfl,?_,hh⟩;refine C7 ha hs (fun b hb=>Cz.w8 hb) (fun b _ hk => ?_) Lt;exact (Cz.nX hk).trans (hr (s,k) (by simp))
 |bad=>simp [lj] at hc
 |Pb=>simp [lj] at hc
 |ptr _ _ _=>simp [lj] at hc
 |MS _ _ _ _ _=>simp [lj] at hc
 |nV q y off=>
  unfold lj at hc;obtain ⟨h1,hc⟩:=bJ hc;have h1:=Nat.eq_of_beq_eq_true h1;subst h1;simp only [Option.some.injEq,Prod.mk.injEq] at hc;obtain ⟨rfl,rfl,_⟩:=hc;obtain ⟨b,o,e1,e2,e3,e4⟩:=hx;refine ⟨v,l,rfl,⟨b,o,e1,e2,Cz.w8 e3,fun z hz => ?_⟩,hh⟩;simp at hz;subst hz;exact fH.stays ⟨Nat.le_refl _,fun _ _ _=>rfl,fun b _ hb=>Cz.w8 hb⟩ _ _ _ _ rfl e4
 |xy q ys off=>
  unfold lj at hc;obtain ⟨h1,hc⟩:=bJ hc;have h1:=Nat.eq_of_beq_eq_true h1;subst h1;simp only [Option.some.injEq,Prod.mk.injEq] at hc;obtain ⟨rfl,rfl,_⟩:=hc;obtain ⟨b,o,e1,e2,e3,e4⟩:=hx;exact ⟨v,l,rfl,⟨b,o,e1,e2,Cz.w8 e3,fun z hz=>fH.stays ⟨Nat.le_refl _,fun _ _ _=>rfl,fun b _ hb=>Cz.w8 hb⟩ _ _ _ _ rfl (e4 z hz)⟩,hh⟩
 |fn g rs ys=>
  simp only [lj,Option.some.injEq,Prod.mk.injEq] at hc;obtain ⟨rfl,rfl,_⟩:=hc;have hx:FnAt w c.ok g rs v ys:=hx;exact ⟨v,l,rfl,hx.stays ⟨Nat.le_refl _,fun _ _ _=>rfl,fun b _ hb=>Cz.w8 hb⟩,hh⟩
theorem Rl {w0:World} {mu:Mu} {c:Cz} {st:St} {a:Act} {w:World} (h:Rel w0 mu c st a w) {own:Bool} {ρ:Lb→Option Lb} {f:Nat→Lb}:(cs:List CV)→(vs:List Value)→(j:Nat)→iQ c st w cs vs→{os:List OV}→{u:List (Option Lb)}→{r:List (Nat×Nat)}→
  jw st own cs=some (os,u,r)→(∀k l,nth u k=some (some l)→ρ l=some (f (j+k)))→(∀p∈r,ρ (.sp p.1 p.2)=none)→cF (c.map ρ) w f j os vs
 | [],vs,j,hl,os,u,r,he,_,_=>by
  simp only [jw,Option.some.injEq,Prod.mk.injEq] at he;obtain ⟨rfl,rfl,rfl⟩:=he;have:=hl.1;simp at this;exact List.length_eq_zero_iff.1 this.symm
 |x::cs,vs,j,hl,os,u,r,he,hu,hr=>by
  obtain ⟨v,l,rfl,hx,By⟩:=hl.Z4;unfold jw at he
  cases hc:lj st own x with
  |none=>simp [hc] at he
  |some p=>
   obtain ⟨o,u1,r1⟩:=p
   cases hq:jw st own cs with
   |none=>simp [hc,hq] at he
   |some q=>
    obtain ⟨EA,us,rs⟩:=q;simp only [hc,hq,Option.some.injEq,Prod.mk.injEq] at he;obtain ⟨rfl,rfl,rfl⟩:=he;refine Rk h hx hc (fun l hl=>hu 0 l (by rw [hl];rfl)) (fun p hp=>hr p (List.mem_append_left _ hp)) ?_;refine Rl h cs l (j+1) By hq (fun k' l' hk => ?_) (fun p hp=>hr p (List.mem_append_right _ hp));have:=hu (k'+1) l' hk
    rwa [show j+(k'+1)=j+1+k' by omega] at this
end Go.TM
namespace Go.TM
open Go Go.RowKit
def Lb.real:Lb→Bool
 |.box _=>true
 |.sp _ _=>true
 |_=>false
theorem Lb.Dn {x y:Lb} (hx:x.real=true):Lb.same x y=true↔x=y:=by
 cases x<;>cases y<;>simp [Lb.same,Lb.real] at hx ⊢
theorem sd:(l:List Lb)→(∀x∈l,x.real=true)→ye l=true→l.Nodup
 | [],_,_=>List.nodup_nil
 |x::l,hr,h=>by
  simp only [ye,Bool.and_eq_true,List.all_eq_true] at h;refine List.nodup_cons.2 ⟨fun hm => ?_,sd l (fun y hy=>hr y (List.mem_cons_of_mem _ hy)) h.2⟩;have:=h.1 x hm;rw [(Lb.Dn (hr x List.mem_cons_self)).2 rfl] at this
  cases this
noncomputable def look:List (Lb×Lb)→Lb→Option Lb
 | [],_=>none
 |(x,y)::t,l=>have:=Classical.propDecidable (x=l);if x=l then some y else look t l
theorem Dp:(t:List (Lb×Lb))→(t.map (·.1)).Nodup→{p:Lb×Lb}→p∈t→look t p.1=some p.2
 | [],_,_,h=>by simp at h
 |(x,y)::t,hn,p,h=>by
  unfold look;simp only [List.map_cons,List.nodup_cons] at hn
  by_cases e:x=p.1
  ·rw [if_pos e];rcases List.mem_cons.1 h with rfl | h
   ·rfl
   ·exact absurd (List.mem_map.2 ⟨p,h,e.symm⟩) hn.1
  ·rw [if_neg e];rcases List.mem_cons.1 h with rfl | h
   ·exact absurd rfl e
   ·exact Dp t hn.2 h
theorem BD:(t:List (Lb×Lb))→{l y:Lb}→look t l=some y→(l,y)∈t
 | [],_,_,h=>by simp [look] at h
 |(x,z)::t,l,y,h=>by
  unfold look at h
  by_cases e:x=l
  ·rw [if_pos e] at h
   cases h
   subst e;exact List.mem_cons_self
  ·rw [if_neg e] at h;exact List.mem_cons_of_mem _ (BD t h)
def Dq (f:Nat→Lb):(j:Nat)→List (Option Lb)→List (Lb×Lb)
 |_,[]=>[]
 |j,some l::ls=>(l,f j)::Dq f (j+1) ls
 |j,none::ls=>Dq f (j+1) ls
theorem Dr (f:Nat→Lb):(j:Nat)→(ls:List (Option Lb))→(Dq f j ls).map (·.1)=dO ls
 |_,[]=>rfl
 |j,some l::ls=>by simp [Dq,dO,Dr f (j+1) ls]
 |j,none::ls=>by simp [Dq,dO,Dr f (j+1) ls]
theorem Hf (f:Nat→Lb):(j:Nat)→(ls:List (Option Lb))→∀p∈Dq f j ls,∃k,p.2=f k
 |_,[],p,h=>by simp [Dq] at h
 |j,some l::ls,p,h=>by
  simp only [Dq,List.mem_cons] at h;rcases h with rfl | h
  ·exact ⟨j,rfl⟩
  ·exact Hf f (j+1) ls p h
 |j,none::ls,p,h=>Hf f (j+1) ls p h
theorem AB (f:Nat→Lb):(j:Nat)→(ls:List (Option Lb))→∀k l,nth ls k=some (some l)→(l,f (j+k))∈Dq f j ls
 |_,[],k,l,h=>by simp at h
 |j,x::ls,0,l,h=>by
  simp only [nth,Option.some.injEq] at h;subst h;exact List.mem_cons_self
 |j,x::ls,k+1,l,h=>by
  have:=AB f (j+1) ls k l h;rw [show j+(k+1)=j+1+k by omega]
  cases x with
  |none=>exact this
  |some x=>exact List.mem_cons_of_mem _ this
theorem lr {l:Lb}:{ls:List (Option Lb)}→l∈dO ls↔some l∈ls
 | []=>by simp [dO]
 |none::ls=>by simp [dO,lr (ls:=ls)]
 |some x::ls=>by simp [dO,lr (ls:=ls)]
def Pv (c:Cz):Option CV→Loc
 |some (.ref a j _ _)=>c.lc a j
 |_=>.nil
def FO (c:Cz):V→Nat→Loc
 |.one (.ref a j _ _)=>fun _=>c.lc a j
 |.agg cs=>fun k=>Pv c cs[k]?
 |_=>fun _=>.nil
theorem Rm {st:St} {own:Bool}:(cs:List CV)→{os:List OV}→{u:List (Option Lb)}→{r:List (Nat×Nat)}→jw st own cs=some (os,u,r)→∀(k:Nat) (o:OV),os[k]?=some o→∃x u' r',cs[k]?=some x∧lj st own x=some (o,u',r')∧nth u k=some u'
 | [],_,_,_,h=>by
  simp only [jw,Option.some.injEq,Prod.mk.injEq] at h;obtain ⟨rfl,rfl,_⟩:=h;intro k o hk;simp at hk
 |x::cs,os,u,r,h=>by
  unfold jw at h
  cases hc:lj st own x with
  |none=>simp [hc] at h
  |some p=>
   obtain ⟨o,u1,r1⟩:=p
   cases hq:jw st own cs with
   |none=>simp [hc,hq] at h
   |some q=>
    obtain ⟨EA,us,rs⟩:=q;simp only [hc,hq,Option.some.injEq,Prod.mk.injEq] at h;obtain ⟨rfl,rfl,_⟩:=h;intro k o' hk
    cases k with
    |zero=>
     simp only [List.getElem?_cons_zero,Option.some.injEq] at hk;subst hk;exact ⟨x,u1,r1,rfl,hc,rfl⟩
    |succ k=>
     obtain ⟨y,u',r',h1,h2,h3⟩:=Rm cs hq k o' (by simpa using hk);exact ⟨y,u',r',by simpa using h1,h2,h3⟩
theorem Vr {st:St} {own:Bool} {x:CV} {A:nu} {u:Option Lb} {r:List (Nat×Nat)} (h:lj st own x=some (.own A,u,r)):∃a j g w B,x=.ref a j g w∧cO st a j g=some B∧A={ B with xs:=w.app B.xs }∧u=some (.sp a j)∧B.own=true:=by
 cases x with
 |ref a j g w=>
  unfold lj at h;simp only at h
  cases hA:cO st a j g with
  |none=>simp [hA] at h
  |some B=>
   simp only [hA] at h
   cases hm:B.md.Sa with
   |true=>simp [hm] at h
   |false=>
   simp only [hm,cond_false] at h
   cases hb:(own&&B.own&&(B.md.is .sh||w.isFull)) with
   |false=>simp [hb] at h
   |true=>
    simp only [hb,cond_true,Option.some.injEq,Prod.mk.injEq] at h;obtain ⟨h1,rfl,_⟩:=h;injection h1 with h1;rw [Bool.and_eq_true,Bool.and_eq_true] at hb;exact ⟨a,j,g,w,B,rfl,hA,h1.symm,rfl,hb.1.2⟩
 |nV q y off=>exact absurd (Dm h).1 (by simp)
 |xy q y off=>exact absurd (BC h).1 (by simp)
 |_=>simp [lj] at h
theorem Sw {st:St} {own:Bool} {x:CV} {u:Option Lb} {r:List (Nat×Nat)} (h:lj st own x=some (.gw,u,r)):x=.gw:=by
 cases x with
 |ref a j g w=>
  unfold lj at h;simp only at h
  cases hA:cO st a j g with
  |none=>simp [hA] at h
  |some B=>
   simp only [hA] at h
   cases hm:B.md.Sa with
   |true=>simp [hm] at h
   |false=>
   simp only [hm,cond_false] at h
   cases hb:(own&&B.own&&(B.md.is .sh||w.isFull))<;>simp [hb] at h
 |gw=>rfl
 |nV q y off=>exact absurd (Dm h).1 (by simp)
 |xy q y off=>exact absurd (BC h).1 (by simp)
 |_=>simp [lj] at h
theorem JS {st:St} {own:Bool} {x:CV} {o:OV} {u:Option Lb} {r:List (Nat×Nat)} (h:lj st own x=some (o,u,r)):∀l,u=some l→∃s j,l=.sp s j:=by
 cases x with
 |ref a j g w=>
  unfold lj at h;simp only at h
  cases hA:cO st a j g with
  |none=>simp [hA] at h
  |some A=>
   simp only [hA] at h
   cases hm:A.md.Sa with
   |true=>simp [hm] at h
   |false=>
   simp only [hm,cond_false] at h
   cases hb:(own&&A.own&&(A.md.is .sh||w.isFull))<;>simp only [hb,cond_true,cond_false,Option.some.injEq,Prod.mk.injEq] at h<;>obtain ⟨_,rfl,_⟩:=h<;>simp
 |nV q y off=>obtain ⟨_,rfl,_⟩:=Dm h;simp
 |xy q y off=>obtain ⟨_,rfl,_⟩:=BC h;simp
 |_=>simp [lj] at h<;>(try (obtain ⟨_,rfl,_⟩:=h;simp))
theorem BE {st:St} {own:Bool}:(cs:List CV)→{os:List OV}→{u:List (Option Lb)}→{r:List (Nat×Nat)}→jw st own cs=some (os,u,r)→∀l∈dO u,∃s j,l=.sp s j
 | [],_,_,_,h=>by
  simp only [jw,Option.some.injEq,Prod.mk.injEq] at h;obtain ⟨_,rfl,_⟩:=h;simp [dO]
 |x::cs,os,u,r,h=>by
  unfold jw at h
  cases hc:lj st own x with
  |none=>simp [hc] at h
  |some p=>
   obtain ⟨o,u1,r1⟩:=p
   cases hq:jw st own cs with
   |none=>simp [hc,hq] at h
   |some q=>
    obtain ⟨EA,us,rs⟩:=q;simp only [hc,hq,Option.some.injEq,Prod.mk.injEq] at h;obtain ⟨_,rfl,_⟩:=h;intro l hl;rw [lr] at hl;rcases List.mem_cons.1 hl with hl | hl
    ·exact JS hc l hl.symm
    ·exact BE cs hq l (lr.2 hl)
theorem Sx {st:St} {own:Bool} (cs:List CV) {os:List OV} {u:List (Option Lb)} {r:List (Nat×Nat)} (h:jw st own cs=some (os,u,r)):∀l∈dO u,l.real=true:=by
 intro l hl;obtain ⟨s,j,rfl⟩:=BE cs h l hl;rfl
def l7 (i:Nat) (av:AV) (bx:List Lb) (u:List (Option Lb)):List (Lb×Lb):=
 bx.map (fun l=>(l,.xz i))++Dq (.dE i) 0 u
theorem pB (i:Nat) (av:AV) (bx:List Lb) (u:List (Option Lb)):(l7 i av bx u).map (·.1)=bx++dO u:=by
 unfold l7;rw [List.map_append,Dr,List.map_map]
 congr 1
 exact List.map_id bx
theorem pC (i:Nat) (av:AV) (bx:List Lb) (u:List (Option Lb)):∀p∈l7 i av bx u,p.2.nw=true:=by
 intro p hp;unfold l7 at hp;rcases List.mem_append.1 hp with hp | hp
 ·obtain ⟨l,_,rfl⟩:=List.mem_map.1 hp;rfl
 ·obtain ⟨k,e⟩:=Hf _ _ _ p hp;rw [e];rfl
theorem Sy {w0:World} {mu:Mu} {c:Cz} {st:St} {a:Act} {w:World} (h:Rel w0 mu c st a w) {m:Pm} {v:V} {x:Value} (hx:il c st w v x) {av:AV} {u q:List Lb} {r:List (Nat×Nat)} (he:jH st m v=some (av,u,q,r)) (i:Nat) :
  (∀l∈u,l.real=true)∧(∀l∈q,l∈u)∧∃tb:List (Lb×Lb),tb.map (·.1)=u∧(∀p∈tb,p.2.nw=true)∧∀ρ:Lb→Option Lb,(∀p∈tb,ρ p.1=some p.2)→(∀p∈r,ρ (.sp p.1 p.2)=none)→wH (c.map ρ) w i (FO c v) av x:=by
 have vals:∀(own:Bool) (cs:List CV) (os:List OV) (us:List (Option Lb)) (rs:List (Nat×Nat)) (vs:List Value),iQ c st w cs vs→jw st own cs=some (os,us,rs)→(∀l∈dO us,l.real=true)∧
   ∀ρ:Lb→Option Lb,(∀p∈Dq (.dE i) 0 us,ρ p.1=some p.2)→(∀p∈rs,ρ (.sp p.1 p.2)=none)→cF (c.map ρ) w (.dE i) 0 os vs:=by
  intro own cs os us rs vs hl hq;refine ⟨Sx cs hq,fun ρ hp hr=>Rl h cs vs 0 hl hq (fun k l hk => ?_) hr⟩;have:=hp _ (AB (.dE i) 0 us k l hk);simpa using this
 have single:∀(own:Bool) (cx:CV) (os:List OV) (us:List (Option Lb)) (rs:List (Nat×Nat)),qd c st w cx x→jw st own [cx]=some (os,us,rs)→(∀l∈dO us,l.real=true)∧(∀l∈dO us,l∈dO us)∧
   ∃tb:List (Lb×Lb),tb.map (·.1)=dO us∧(∀p∈tb,p.2.nw=true)∧∀ρ:Lb→Option Lb,(∀p∈tb,ρ p.1=some p.2)→(∀p∈rs,ρ (.sp p.1 p.2)=none)→wH (c.map ρ) w i (FO c (.one cx)) (.val false os) x:=by
  intro own cx os us rs hl hq;obtain ⟨g1,g2⟩:=vals own [cx] os us rs [x] ⟨rfl,fun k y z hy hz=>by
   cases k with
   |zero=>simp at hy hz;subst hy hz;exact hl
   |succ k=>simp at hy⟩ hq
  exact ⟨g1,fun _ h=>h,l7 i (.val false os) [] us,pB _ _ _ _,pC _ _ _ _,fun ρ hp hr=>g2 ρ (fun p lP=>hp p (by simpa [l7] using lP)) hr⟩
 cases v with
 |p8 _=>simp [jH] at he
 |agg cs=>
  obtain ⟨vs,rfl,hl⟩:=hx;have other:(match jw st m.re cs with | some (os,u,r)=>some (AV.val true os,dO u,dO u,r) | none=>none)=some (av,u,q,r)→(∀l∈u,l.real=true)∧(∀l∈q,l∈u)∧
    ∃tb:List (Lb×Lb),tb.map (·.1)=u∧(∀p∈tb,p.2.nw=true)∧∀ρ:Lb→Option Lb,(∀p∈tb,ρ p.1=some p.2)→(∀p∈r,ρ (.sp p.1 p.2)=none)→wH (c.map ρ) w i (FO c (.agg cs)) av (.agg vs):=by
   intro he
   cases hq:jw st m.re cs with
   |none=>simp [hq] at he
   |some p=>
    obtain ⟨os,us,rs⟩:=p;simp only [hq,Option.some.injEq,Prod.mk.injEq] at he;obtain ⟨rfl,rfl,rfl,rfl⟩:=he;obtain ⟨g1,g2⟩:=vals _ _ _ _ _ _ hl hq;exact ⟨g1,fun _ h=>h,l7 i (.val true os) [] us,pB _ _ _ _,pC _ _ _ _,fun ρ hp hr=>⟨vs,rfl,g2 ρ (fun p lP=>hp p (by simpa [l7] using lP)) hr⟩⟩
  unfold jH at he
  cases m with
  |shr=>exact other he
  |own=>exact other he
  |pick _=>exact other he
  |io=>exact other he
  |dZ=>
   simp only at he
   cases hq:jw st true cs with
   |none=>simp [hq] at he
   |some p=>
    obtain ⟨os,us,rs⟩:=p;simp only [hq] at he;obtain ⟨lu,BQ⟩:=bJ he;simp only [Option.some.injEq,Prod.mk.injEq] at BQ;obtain ⟨rfl,rfl,rfl,rfl⟩:=BQ;obtain ⟨g1,g2⟩:=vals _ _ _ _ _ _ hl hq;refine ⟨g1,by simp,l7 i (.val true os) [] us,pB _ _ _ _,pC _ _ _ _,fun ρ hp hr=>⟨vs,rfl,g2 ρ (fun p lP=>hp p (by simpa [l7] using lP)) hr,fun j o x ho hxj => ?_⟩⟩;obtain ⟨cx,u',r',k1,k2,k3⟩:=Rm cs hq j o ho;show Vp (c.map ρ) w i (fun k=>Pv c cs[k]?) j o x
    cases o with
    |gw=>
     have:=Sw k2;subst this;show Pv c cs[j]?=.nil;rw [k1];rfl
    |own A=>
     obtain ⟨s,k,g,vw,B,rfl,hA,rfl,rfl,hB⟩:=Vr k2;have Gu:CV.ref s k g vw∈cs:=List.mem_of_getElem? k1;have I5:=List.all_eq_true.1 lu _ Gu;have Vs:vw=.full:=by
      unfold UX at I5;rw [Bool.and_eq_true] at I5
      cases vw with
      |full=>rfl
      |«from» _=>cases I5.1
      |sub _ _=>cases I5.1
     subst Vs;have hxr:=hl.2 j _ _ k1 hxj;have hs:=hxr.2.2 B hA;have ha:=Dl h hA;have hρ:ρ (.sp s k)=some (.dE i j):=hp (.sp s k,.dE i j) (by
      have:=AB (.dE i) 0 us j (.sp s k) k3;simpa [l7] using this)
     have amw:(fun k=>Pv c cs[k]?) j=c.lc s k:=by
      show Pv c cs[j]?=_;rw [k1];rfl
     show OwnAt (c.map ρ) w (.dE i j) ((fun k=>Pv c cs[k]?) j) { B with xs:=View.full.app B.xs } x;rw [amw];refine ⟨hxr.1,hs,hB,?_⟩;show match c.lc s k with
      |.nil=>B.xs=[]
      |.at b off cap=>_
     unfold fJ at ha
     cases np:c.lc s k with
     |nil=>rw [np] at ha;exact ha
     |«at» b off cap=>
      rw [np] at ha;obtain ⟨h0,h2,h3,h4⟩:=ha;rw [hB] at h0;exact ⟨(Cz.nX h0).trans hρ,h2,h3,h4.map hρ⟩
    |_=>trivial
 |one cx=>
  cases cx with
  |ptr b g off=>
   unfold jH at he;simp only at he
   cases hb:fV st b g with
   |none=>simp [hb] at he
   |some cs=>
    simp only [hb] at he
    cases hq:jw st true cs with
    |none=>simp [hq] at he
    |some p=>
     obtain ⟨os,us,rs⟩:=p;simp only [hq] at he;obtain ⟨ho,BQ⟩:=bJ he;have ho1:=Nat.eq_of_beq_eq_true ho;simp only [Option.some.injEq,Prod.mk.injEq] at BQ;obtain ⟨rfl,rfl,rfl,rfl⟩:=BQ;subst ho1;obtain ⟨sl,k1,k2,k3⟩:=ka hb;obtain ⟨h1,vs,ty,h2,h3⟩:=h.boxes b sl cs k1 k3;obtain ⟨g1,g2⟩:=vals _ _ _ _ _ _ h3 hq;refine ⟨fun l hl => ?_,fun l hl=>List.mem_cons_of_mem _ hl,l7 i (.box os) [.box b] us,by rw [pB];rfl,pC _ _ _ _,fun ρ hp hr=>⟨c.bx b,vs,ty,hx.2.2 cs hb,?_,h2,g2 ρ (fun p lP=>hp p (List.mem_append_right _ lP)) hr⟩⟩
     ·rcases List.mem_cons.1 hl with rfl | hl
      ·rfl
      ·exact g1 l hl
     ·exact (Cz.nX h1).trans (hp (.box b,.xz i) (by simp [l7]))
  |ref s j g vw=>
   unfold jH at he;have other:(match jw st m.re [.ref s j g vw] with | some (os,u,r)=>some (AV.val false os,dO u,dO u,r) | none=>none)=some (av,u,q,r)→(∀l∈u,l.real=true)∧(∀l∈q,l∈u)∧
     ∃tb:List (Lb×Lb),tb.map (·.1)=u∧(∀p∈tb,p.2.nw=true)∧∀ρ:Lb→Option Lb,(∀p∈tb,ρ p.1=some p.2)→(∀p∈r,ρ (.sp p.1 p.2)=none)→wH (c.map ρ) w i (FO c (.one (.ref s j g vw))) av x:=by
    intro he
    cases hq:jw st m.re [.ref s j g vw] with
    |none=>simp [hq] at he
    |some p=>
     obtain ⟨os,us,rs⟩:=p;simp only [hq,Option.some.injEq,Prod.mk.injEq] at he;obtain ⟨rfl,rfl,rfl,rfl⟩:=he;exact single _ _ _ _ _ hx hq
   cases m with
   |shr=>exact other he
   |own=>exact other he
   |pick _=>exact other he
   |dZ=>exact other he
   |io=>
    cases vw with
    |full=>
     cases hA:cO st s j g with
     |none=>simp [hA] at he
     |some A=>
      simp only [hA] at he;obtain ⟨ho,BQ⟩:=bJ he;rw [Bool.and_eq_true] at ho;have ho:=ho.1;simp only [Option.some.injEq,Prod.mk.injEq] at BQ;obtain ⟨rfl,rfl,rfl,rfl⟩:=BQ;refine ⟨by simp [Lb.real],by simp,[(.sp s j,.dE i 0)],rfl,by simp [Lb.nw],fun ρ hp _ => ?_⟩;have ha:=Dl h hA;have hs:=hx.2.2 A hA;have hρ:ρ (.sp s j)=some (.dE i 0):=hp (.sp s j,.dE i 0) (by simp);refine ⟨hx.1,hs,ho,?_⟩;show match c.lc s j with
       |.nil=>A.xs=[]
       |.at b off cap=>_
      unfold fJ at ha
      cases np:c.lc s j with
      |nil=>rw [np] at ha;exact ha
      |«at» b off cap=>
       rw [np] at ha;obtain ⟨h0,h2,h3,h4⟩:=ha;rw [ho] at h0;exact ⟨(Cz.nX h0).trans hρ,h2,h3,h4.map hρ⟩
    |«from» _=>simp at he
    |sub _ _=>simp at he
  |_=>
   unfold jH at he;simp only at he
   split at he
   ·rename_i os us rs hq;simp only [Option.some.injEq,Prod.mk.injEq] at he;obtain ⟨rfl,rfl,rfl,rfl⟩:=he;exact single _ _ _ _ _ hx hq
   ·cases he
theorem JT {w0:World} {mu:Mu} {c:Cz} {st:St} {a:Act} {w:World} (h:Rel w0 mu c st a w):(ms:List (Pm×V))→(i:Nat)→(xs:List Value)→ms.length=xs.length→(∀(k:Nat) (m:Pm×V) (x:Value),ms[k]?=some m→xs[k]?=some x→il c st w m.2 x)→
  {ga:List AV}→{u q:List Lb}→{r:List (Nat×Nat)}→oL st ms=some (ga,u,q,r)→
  (∀l∈u,l.real=true)∧(∀l∈q,l∈u)∧∃tb:List (Lb×Lb),tb.map (·.1)=u∧(∀p∈tb,p.2.nw=true)∧ga.length=ms.length∧
   ∀(ρ:Lb→Option Lb) (lc:Nat→Nat→Loc),(∀(k:Nat) (m:Pm×V),ms[k]?=some m→lc (i+k)=FO c m.2)→(∀p∈tb,ρ p.1=some p.2)→(∀p∈r,ρ (.sp p.1 p.2)=none)→Cl (c.map ρ) w lc i ga xs
 | [],i,xs,hl,hx,ga,u,q,r,he=>by
  simp only [oL,Option.some.injEq,Prod.mk.injEq] at he;obtain ⟨rfl,rfl,rfl,rfl⟩:=he;simp at hl;exact ⟨by simp,by simp,[],rfl,by simp,rfl,fun ρ lc _ _ _=>List.length_eq_zero_iff.1 hl.symm⟩
 |(m,v)::ms,i,xs,hl,hx,ga,u,q,r,he=>by
  cases xs with
  |nil=>simp at hl
  |cons x xs=>
   unfold oL at he
   cases h1:jH st m v with
   |none=>simp [h1] at he
   |some p1=>
    obtain ⟨av,u1,q1,r1⟩:=p1
    cases h2:oL st ms with
    |none=>simp [h1,h2] at he
    |some p2=>
     obtain ⟨aa7,u2,q2,r2⟩:=p2;simp only [h1,h2,Option.some.injEq,Prod.mk.injEq] at he;obtain ⟨rfl,rfl,rfl,rfl⟩:=he;obtain ⟨a1,a2,ta,a4,a5,a3⟩:=Sy h (hx 0 (m,v) x rfl rfl) h1 i;obtain ⟨b1,b2,tb,b3,b4,b6,b5⟩:=JT h ms (i+1) xs (by simpa using hl) (fun k m x hm Q8=>hx (k+1) m x (by simpa using hm) (by simpa using Q8)) h2;refine ⟨fun l hl => ?_,fun l hl => ?_,ta++tb,by simp [a4,b3],fun p hp => ?_,by simp [b6],fun ρ lc np hp hr => ?_⟩
     ·rcases List.mem_append.1 hl with hl | hl
      ·exact a1 l hl
      ·exact b1 l hl
     ·rcases List.mem_append.1 hl with hl | hl
      ·exact List.mem_append_left _ (a2 l hl)
      ·exact List.mem_append_right _ (b2 l hl)
     ·rcases List.mem_append.1 hp with hp | hp
      ·exact a5 p hp
      ·exact b4 p hp
     ·refine ⟨x,xs,rfl,?_,b5 ρ lc (fun k m hm => ?_) (fun p lP=>hp p (List.mem_append_right _ lP)) (fun p lP=>hr p (List.mem_append_right _ lP))⟩
      ·have:=np 0 (m,v) rfl;simp only [Nat.add_zero] at this;rw [this];exact a3 ρ (fun p lP=>hp p (List.mem_append_left _ lP)) (fun p lP=>hr p (List.mem_append_left _ lP))
      ·have:=np (k+1) m (by simpa using hm)
       rwa [show i+(k+1)=i+1+k by omega] at this
end Go.TM
namespace Go.TM
open Go Go.RowKit
structure nz (X:Lb→Prop) (w0:World) (mu:Mu) (c:Cz) (st:St) (a:Act) (w:World):Prop where
 jj:∀t,il c st w (dN st t) (a.eval (.tmp t))
 boxes:∀s sl cs,¬X (.box s)→nth st s=some sl→sl.box=some cs→Ap c st w s cs
 bU:∀s j sl A,¬X (.sp s j)→nth st s=some sl→nth sl.bU j=some (some A)→fJ c w s j A
 owned:∀b l,c.own b=some l→b<w.heap.size∧(l=.out∨w0.heap.size≤b∨mu.m b)
 free:∀b,b<w0.heap.size→c.own b=none→mu.m b∨mu.ok b
 kept:w.os=w0.os∧w.tape=w0.tape∧w.output=w0.output∧w0.heap.size≤w.heap.size
 old:∀k,k<w0.heap.size→¬mu.m k→w.heap[k]?=w0.heap[k]?
 plain:a.defers=[]
 hZ:∀p∈mu.an,Yx c st p
theorem nz.rel {w0:World} {mu:Mu} {c:Cz} {st:St} {a:Act} {w:World} (h:nz (fun _=>False) w0 mu c st a w):Rel w0 mu c st a w:=
 ⟨h.jj,fun s sl cs=>h.boxes s sl cs id,fun s j sl A=>h.bU s j sl A id,h.owned,h.free,h.kept,h.old,h.plain,h.hZ⟩
structure FP (ρ:Lb→Lb):Prop where
 other:∀l,(l=.out∨l.real=true)→ρ l=l
def Cz.ia (c:Cz) (ρ:Lb→Lb) (bx:Nat→Nat) (lc:Nat→Nat→Loc):Cz:={ bx:=bx,lc:=lc,own:=fun b=>(c.own b).map ρ }
theorem Cz.se {c:Cz} {ρ:Lb→Lb} {bx:Nat→Nat} {lc:Nat→Nat→Loc} {b:Nat}:(c.ia ρ bx lc).ok b↔c.ok b:=by
 unfold Cz.ok Cz.ia;simp
theorem rz (c:Cz) (w:World) (ρ:Lb→Lb) (bx:Nat→Nat) (lc:Nat→Nat→Loc):lk w w c.ok (c.ia ρ bx lc).ok:=⟨Nat.le_refl _,fun _ _ _=>rfl,fun _ _ h=>Cz.se.2 h⟩
theorem nz.ia {X X':Lb→Prop} {w0:World} {mu:Mu} {c:Cz} {st bQ:St} {a:Act} {w:World} (h:nz X w0 mu c st a w) {ρ:Lb→Lb} {bx:Nat→Nat} {lc:Nat→Nat→Loc} (hρ:FP ρ)
  (lU:Fw c st w (c.ia ρ bx lc) bQ w) (ahF:∀t,il (c.ia ρ bx lc) bQ w (dN bQ t) (a.eval (.tmp t)))
  (amx:∀s sl cs,¬X' (.box s)→nth bQ s=some sl→sl.box=some cs→Ap (c.ia ρ bx lc) bQ w s cs)
  (EG:∀s j sl A,¬X' (.sp s j)→nth bQ s=some sl→nth sl.bU j=some (some A)→fJ (c.ia ρ bx lc) w s j A):nz X' w0 mu (c.ia ρ bx lc) bQ a w where
 jj:=ahF
 boxes:=amx
 bU:=EG
 owned b l hb:=by
  unfold Cz.ia at hb;simp only [Option.map_eq_some_iff] at hb;obtain ⟨k,hk,e⟩:=hb;obtain ⟨h1,h2⟩:=h.owned b k hk;refine ⟨h1,h2.imp (fun e2 => ?_) id⟩;subst e2;rw [←e];exact hρ.other _ (.inl rfl)
 free b hb h1:=h.free b hb (by unfold Cz.ia at h1;simpa using h1)
 kept:=h.kept
 old:=h.old
 plain:=h.plain
 hZ p hp:=lU.hZ (h.hZ p hp)
theorem l8 (st:St) (s j:Nat) (A:Option nu) (k:Nat):∃f:Sl→Sl,(∀x,(f x).v=x.v∧(f x).box=x.box∧(f x).bg=x.bg∧(f x).ag=x.ag∧
   (∀i,nth (f x).bU i=if k=s∧i=j then (nth x.bU i).map (fun _=>A) else nth x.bU i)∧(f x).ep=if k=s then x.ep+1 else x.ep)∧nth (fk st s j A) k=(nth st k).map f:=by
 unfold fk
 by_cases e:k=s
 ·subst e;refine ⟨fun s=>{ s with bU:=sO (fun _=>A) s.bU j,ep:=s.ep+1 },fun x=>⟨rfl,rfl,rfl,rfl,fun i => ?_,by simp⟩,qc _ _ _⟩;simp only [lf,true_and]
 ·refine ⟨id,fun x=>⟨rfl,rfl,rfl,rfl,fun i => ?_,by simp [e]⟩,by rw [u5 _ _ e];simp⟩;simp [e]
theorem Hg (st:St) (s j:Nat) (A:Option nu) (t:Nat):wu st t≤wu (fk st s j A) t∧(wu (fk st s j A) t=wu st t→t≠s∨nth st t=none):=by
 obtain ⟨f,hf,hk⟩:=l8 st s j A t;unfold wu;rw [hk]
 cases nth st t with
 |none=>simp
 |some x=>
  simp only [Option.map_some];rw [(hf x).2.2.2.2.2]
  by_cases e:t=s
  ·rw [if_pos e];exact ⟨by omega,fun h=>by omega⟩
  ·rw [if_neg e];exact ⟨Nat.le_refl _,fun _=>.inl e⟩
theorem FQ (st:St) (s j:Nat) (A:Option nu) (t:Nat):dN (fk st s j A) t=dN st t:=by
 obtain ⟨f,hf,hk⟩:=l8 st s j A t;unfold dN;rw [hk]
 cases nth st t with
 |none=>rfl
 |some x=>exact (hf x).1
theorem Hh (st:St) (s j:Nat) (A:Option nu) (t:Nat):gP (fk st s j A) t=gP st t∧j5 (fk st s j A) t=j5 st t:=by
 obtain ⟨f,hf,hk⟩:=l8 st s j A t;unfold gP j5;rw [hk]
 cases nth st t with
 |none=>exact ⟨rfl,rfl⟩
 |some x=>exact ⟨(hf x).2.2.2.1,(hf x).2.2.1⟩
theorem Na (st:St) (s j:Nat) (A:Option nu) (b g:Nat):fV (fk st s j A) b g=fV st b g:=by
 obtain ⟨f,hf,hk⟩:=l8 st s j A b;unfold fV;rw [hk]
 cases nth st b with
 |none=>rfl
 |some x=>simp [(hf x).2.1,(hf x).2.2.1]
theorem BF {st:St} {a j g:Nat} {sl:Sl} {A:nu} (h1:nth st a=some sl) (h2:sl.ag=g) (h3:nth sl.bU j=some (some A)):cO st a j g=some A:=by
 unfold cO;rw [h1];simp [h2,h3]
theorem JU {c:Cz} {st:St} {w:World} {s j g:Nat} {A:Option nu} {A0:nu} (h0:cO st s j g=some A0∨A=none) (hA:∀B,A=some B→B.r.width=A0.r.width∧B.xs.length=A0.xs.length) (ρ:Lb→Lb) :
  Fw c st w (c.ia ρ c.bx c.lc) (fk st s j A) w where
 stays:=rz c w ρ _ _
 refs a' j' g' A' hg iB:=by
  obtain ⟨sl,k1,k2,k3⟩:=dK iB;obtain ⟨f,hf,hk⟩:=l8 st s j A a';rw [hk] at k1
  cases hx:nth st a' with
  |none=>rw [hx] at k1;simp at k1
  |some x=>
   rw [hx] at k1;simp at k1;subst k1;rw [(hf x).2.2.2.1] at k2;rw [(hf x).2.2.2.2.1 j'] at k3
   by_cases e:a'=s∧j'=j
   ·rw [if_pos e] at k3;obtain ⟨rfl,rfl⟩:=e
    cases hq:nth x.bU j' with
    |none=>simp [hq] at k3
    |some A1=>
     simp only [hq,Option.map_some,Option.some.injEq] at k3;rcases h0 with h0 | h0
     ·obtain ⟨sl,k1',k2',k3'⟩:=dK h0;rw [hx] at k1';cases k1';obtain ⟨e1,e2⟩:=hA A' k3;refine ⟨A0,BF hx k2 k3',e1,e2,rfl,fun he => ?_⟩;rcases (Hg st a' j' A a').2 he with h | h
      ·exact absurd rfl h
      ·rw [hx] at h;cases h
     ·rw [h0] at k3;cases k3
   ·rw [if_neg e] at k3;exact ⟨A',BF hx k2 k3,rfl,rfl,rfl,fun _=>⟨rfl,fun _ _ _ _=>rfl⟩⟩
 GY b g' cs _ h:=⟨⟨cs,by rwa [Na] at h⟩,rfl⟩
 gA a':=by rw [(Hh st s j A a').1];exact Nat.le_refl _
 gB a':=by rw [(Hh st s j A a').2];exact Nat.le_refl _
 gE a':=(Hg st s j A a').1
theorem Ap.ia {c:Cz} {st bQ:St} {w:World} {ρ:Lb→Lb} {bx:Nat→Nat} {lc:Nat→Nat→Loc} (hρ:FP ρ) (lU:Fw c st w (c.ia ρ bx lc) bQ w) {s:Nat} {cs:List CV} (h:Ap c st w s cs) (hb:bx s=c.bx s):Ap (c.ia ρ bx lc) bQ w s cs:=by
 refine h.go lU hb ?_ rfl;unfold Cz.ia;simp only;rw [h.1];simp [hρ.other (.box s) (.inr rfl)]
theorem fJ.ia {c:Cz} {w:World} {ρ:Lb→Lb} {bx:Nat→Nat} {lc:Nat→Nat→Loc} (hρ:FP ρ) {s j:Nat} {A:nu} (h:fJ c w s j A) (hl:lc s j=c.lc s j):fJ (c.ia ρ bx lc) w s j A:=by
 refine h.go (rz c w ρ bx lc) hl (fun b h0=>⟨rfl,?_⟩);unfold Cz.ia;simp only;rw [h0];simp [hρ.other (.sp s j) (.inr rfl)]
theorem Hi:FP id:=⟨fun _ _=>rfl⟩
theorem nz.kill {X:Lb→Prop} {w0:World} {mu:Mu} {c:Cz} {st:St} {a:Act} {w:World} (h:nz X w0 mu c st a w) (s j:Nat):nz (fun l=>X l∧l≠.sp s j) w0 mu (c.ia id c.bx c.lc) (fk st s j none) a w∧Fw c st w (c.ia id c.bx c.lc) (fk st s j none) w:=by
 have lU:Fw c st w (c.ia id c.bx c.lc) (fk st s j none) w:=JU (g:=0) (A0:={ r:=.nil,own:=false,xs:=[] }) (.inr rfl) (fun _ e=>by cases e) id;refine ⟨h.ia Hi lU (fun t=>by rw [FQ];exact lU.u6 (h.jj t)) (fun k sl cs hX hs hb => ?_) (fun k i sl A hX hs hA => ?_),lU⟩
 ·obtain ⟨f,hf,hk⟩:=l8 st s j none k;rw [hk] at hs
  cases hx:nth st k with
  |none=>rw [hx] at hs;simp at hs
  |some x=>
   rw [hx] at hs;simp at hs;subst hs;rw [(hf x).2.1] at hb;exact (h.boxes k x cs (fun Sz=>hX ⟨Sz,by simp⟩) hx hb).ia Hi lU rfl
 ·obtain ⟨f,hf,hk⟩:=l8 st s j none k;rw [hk] at hs
  cases hx:nth st k with
  |none=>rw [hx] at hs;simp at hs
  |some x=>
   rw [hx] at hs;simp at hs;subst hs;rw [(hf x).2.2.2.2.1 i] at hA
   by_cases e:k=s∧i=j
   ·rw [if_pos e] at hA
    cases hq:nth x.bU i<;>simp [hq] at hA
   ·rw [if_neg e] at hA;exact (h.bU k i x A (fun Sz=>hX ⟨Sz,by rintro e';injection e' with e1 e2;exact e ⟨e1,e2⟩⟩) hx hA).ia Hi rfl
theorem nz.mono {X X':Lb→Prop} {w0:World} {mu:Mu} {c:Cz} {st:St} {a:Act} {w:World} (h:nz X w0 mu c st a w) (hX:∀l,X l→X' l):nz X' w0 mu c st a w:=
 ⟨h.jj,fun s sl cs hn=>h.boxes s sl cs (fun h=>hn (hX _ h)),fun s j sl A hn=>h.bU s j sl A (fun h=>hn (hX _ h)),h.owned,h.free,h.kept,h.old,h.plain,h.hZ⟩
def w9 (i z s j:Nat):Lb→Lb
 |.dE x y=>if x=i∧y=z then .sp s j else .dE x y
 |l=>l
def tY (i b:Nat):Lb→Lb
 |.dE x y=>if x=i then .sp b y else .dE x y
 |.xz x=>if x=i then .box b else .xz x
 |l=>l
theorem LJ (i z s j:Nat):FP (w9 i z s j):=⟨fun l h=>by cases l<;>simp [w9,Lb.real] at h ⊢⟩
theorem Ja (i b:Nat):FP (tY i b):=⟨fun l h=>by cases l<;>simp [tY,Lb.real] at h ⊢⟩
theorem OwnAt.arr {c:Cz} {w:World} {l:Lb} {lc':Loc} {A:nu} {v:Value} (h:OwnAt c w l lc' A v) {ρ:Lb→Lb} {bx:Nat→Nat} {lc:Nat→Nat→Loc} {s j:Nat} (hl:lc s j=lc') (hρ:ρ l=.sp s j):fJ (c.ia ρ bx lc) w s j A:=by
 obtain ⟨_,_,h3,h4⟩:=h;unfold fJ;show match lc s j with | .nil=>_ | .at b off cap=>_
 rw [hl]
 cases lc' with
 |nil=>exact h4
 |«at» b off cap=>
  obtain ⟨g1,g2,g3,g4⟩:=h4;rw [h3];have hq:∀k,c.own k=some l→(c.ia ρ bx lc).own k=some (.sp s j):=by
   intro k hk;show (c.own k).map ρ=_;rw [hk];simp [hρ]
  exact ⟨hq b g1,g2,g3,g4.go (fun _=>rz c w ρ bx lc) rfl (fun _ k hk=>⟨rfl,hq k hk⟩)⟩
theorem nz.io {X:Lb→Prop} {w0:World} {mu:Mu} {c:Cz} {st:St} {a:Act} {w:World} (h:nz X w0 mu c st a w) {s j g i z:Nat} {A B:nu} {v:Value} (hA:cO st s j g=some A) (hw:B.r.width=A.r.width) (hn:B.xs.length=A.xs.length)
  (hB:OwnAt c w (.dE i z) (c.lc s j) B v):nz (fun l=>X l∧l≠.sp s j) w0 mu (c.ia (w9 i z s j) c.bx c.lc) (fk st s j (some B)) a w∧Fw c st w (c.ia (w9 i z s j) c.bx c.lc) (fk st s j (some B)) w:=by
 have lU:Fw c st w (c.ia (w9 i z s j) c.bx c.lc) (fk st s j (some B)) w:=JU (.inl hA) (fun _ e=>by cases e;exact ⟨hw,hn⟩) _;have ht:=LJ i z s j;refine ⟨h.ia ht lU (fun t=>by rw [FQ];exact lU.u6 (h.jj t)) (fun k sl cs hX hs hb => ?_) (fun k q sl A' hX hs iB => ?_),lU⟩
 ·obtain ⟨f,hf,hk⟩:=l8 st s j (some B) k;rw [hk] at hs
  cases hx:nth st k with
  |none=>rw [hx] at hs;simp at hs
  |some x=>
   rw [hx] at hs;simp at hs;subst hs;rw [(hf x).2.1] at hb;exact (h.boxes k x cs (fun Sz=>hX ⟨Sz,by simp⟩) hx hb).ia ht lU rfl
 ·obtain ⟨f,hf,hk⟩:=l8 st s j (some B) k;rw [hk] at hs
  cases hx:nth st k with
  |none=>rw [hx] at hs;simp at hs
  |some x=>
   rw [hx] at hs;simp at hs;subst hs;rw [(hf x).2.2.2.2.1 q] at iB
   by_cases e:k=s∧q=j
   ·rw [if_pos e] at iB;obtain ⟨rfl,rfl⟩:=e
    cases hq:nth x.bU q with
    |none=>simp [hq] at iB
    |some A1=>
     simp only [hq,Option.map_some,Option.some.injEq] at iB;subst iB;exact hB.arr rfl (by simp [w9])
   ·rw [if_neg e] at iB;exact (h.bU k q x A' (fun Sz=>hX ⟨Sz,by rintro e';injection e' with e1 e2;exact e ⟨e1,e2⟩⟩) hx iB).ia ht rfl
theorem cF.cells {c:Cz} {w:World} {f:Nat→Lb}:(os:List OV)→(j:Nat)→(vs:List Value)→cF c w f j os vs→
  ∃lcs:Nat→Loc,(∀k A,nth (cj os) k=some (some A)→∃v,OwnAt c w (f (j+k)) (lcs (j+k)) A v)∧
   ∀(c2:Cz) (lV:St) (d g:Nat),(∀b,c.ok b→c2.ok b)→(∀k,k<os.length→c2.lc d (j+k)=lcs (j+k))→(∀k A,k<os.length→cO lV d (j+k) g=some A→nth (cj os) k=some (some A))→g≤gP lV d→iQ c2 lV w (bW d g j os) vs
 | [],j,vs,h=>by
  subst h;exact ⟨fun _=>.nil,fun k A hA=>by simp [cj] at hA,fun _ _ _ _ _ _ _ _=>⟨rfl,fun i x v hx=>by simp [bW] at hx⟩⟩
 |o::os,j,vs,h=>by
  obtain ⟨v,l,rfl,hh,Ra⟩:∃v l,vs=v::l∧cF c w f (j+1) os l∧∃lc,(∀A,o.arr=some A→OwnAt c w (f j) lc A v)∧∀(c2:Cz) (lV:St) (d g:Nat),(∀b,c.ok b→c2.ok b)→c2.lc d j=lc→(∀A,cO lV d j g=some A→o.arr=some A)→g≤gP lV d→
    ∃x,bW d g j (o::os)=x::bW d g (j+1) os∧qd c2 lV w x v:=by
   cases o with
   |int k n=>obtain ⟨l,h1,h2⟩:=h;exact ⟨_,l,h1,h2,.nil,(fun _ e=>by cases e),fun c2 lV d g _ _ _ _=>⟨_,rfl,rfl⟩⟩
   |bool b=>obtain ⟨l,h1,h2⟩:=h;exact ⟨_,l,h1,h2,.nil,(fun _ e=>by cases e),fun c2 lV d g _ _ _ _=>⟨_,rfl,rfl⟩⟩
   |str b=>obtain ⟨l,h1,h2⟩:=h;exact ⟨_,l,h1,h2,.nil,(fun _ e=>by cases e),fun c2 lV d g _ _ _ _=>⟨_,rfl,rfl⟩⟩
   |gw=>obtain ⟨l,h1,h2⟩:=h;exact ⟨_,l,h1,h2,.nil,(fun _ e=>by cases e),fun c2 lV d g _ _ _ _=>⟨_,rfl,rfl⟩⟩
   |shr r xs=>
    obtain ⟨v,l,h1,h2,h3⟩:=h;exact ⟨v,l,h1,h3,.nil,(fun _ e=>by cases e),fun c2 lV d g iP _ _ _=>⟨.shr r xs,rfl,ev.stays ⟨Nat.le_refl _,fun _ _ _=>rfl,fun b _ hb=>iP b hb⟩ _ _ _ h2⟩⟩
   |nV r xs=>
    obtain ⟨v,l,h1,⟨b,o,e1,e2,e3,e4⟩,h3⟩:=h;exact ⟨v,l,h1,h3,.nil,(fun _ e=>by cases e),fun c2 lV d g iP _ _ _=>⟨.xy r xs 0,rfl,b,o,e1,e2,iP b e3,fun x hx=>fH.stays ⟨Nat.le_refl _,fun _ _ _=>rfl,fun b _ hb=>iP b hb⟩ _ _ _ _ rfl (e4 x hx)⟩⟩
   |fn g rs xs=>
    obtain ⟨v,l,h1,h2,h3⟩:=h;exact ⟨v,l,h1,h3,.nil,(fun _ e=>by cases e),fun c2 lV d g' iP _ _ _=>⟨.fn g rs xs,rfl,h2.stays ⟨Nat.le_refl _,fun _ _ _=>rfl,fun b _ hb=>iP b hb⟩⟩⟩
   |own A=>
    obtain ⟨v,l,h1,⟨lc,h2⟩,h3⟩:=h;refine ⟨v,l,h1,h3,lc,(fun A' e=>by cases e;exact h2),fun c2 lV d g _ np EG hg=>⟨.ref d j g .full,rfl,h2.1,hg,fun A' iB => ?_⟩⟩;have e:=EG A' iB
    cases e
    rw [np];exact h2.2.1
  obtain ⟨lc,q1,q2⟩:=Ra;obtain ⟨lcs,g1,g2⟩:=cF.cells os (j+1) l hh;refine ⟨fun k=>if k=j then lc else lcs k,fun k A' iB => ?_,fun c2 lV d g iP np EG hg => ?_⟩
  ·cases k with
   |zero=>
    simp only [cj,nth,Option.some.injEq] at iB;exact ⟨v,by simpa using q1 A' iB⟩
   |succ k=>
    have:=g1 k A' iB;rw [show j+1+k=j+(k+1) by omega] at this;show ∃v,OwnAt c w (f (j+(k+1))) (if j+(k+1)=j then lc else lcs (j+(k+1))) A' v;rw [if_neg (by omega)];exact this
  ·have gS:=g2 c2 lV d g iP (fun k hk=>by
    have:c2.lc d (j+(k+1))=if j+(k+1)=j then lc else lcs (j+(k+1)):=np (k+1) (by simp;exact hk)
    rw [if_neg (by omega)] at this;rw [show j+1+k=j+(k+1) by omega];exact this) (fun k A' hk iB=>by
     have:=EG (k+1) A' (by simp;exact hk) (by rw [show j+(k+1)=j+1+k by omega];exact iB);exact this) hg
   have h0:c2.lc d j=lc:=by
    have:=np 0 (by simp);simpa using this
   obtain ⟨x,e1,e2⟩:=q2 c2 lV d g iP h0 (fun A hA=>by
    have:=EG 0 A (by simp) hA;simpa [cj,nth] using this) hg
   rw [e1];refine ⟨by simp [gS.1],fun k y z hy hz => ?_⟩
   cases k with
   |zero=>
    simp only [List.getElem?_cons_zero,Option.some.injEq] at hy hz;subst hy hz;exact e2
   |succ k=>exact gS.2 k y z (by simpa using hy) (by simpa using hz)
theorem nz.boxed {X:Lb→Prop} {w0:World} {mu:Mu} {c:Cz} {st:St} {a:Act} {w:World} (h:nz X w0 mu c st a w) {b g i:Nat} {s0:Sl} {UH:List CV} {os:List OV} {v:Value} (mY:nth st b=some s0) (G4:fV st b g=some UH) (hv:v=.pointer (some ⟨c.bx b,0,none⟩))
  (hB:JR c w i os v):∃c',nz (fun l=>X l∧l≠.box b) w0 mu c' (sO (fun s=>{ s with box:=some (bW b (s0.ag+1) 0 os),bU:=cj os,ag:=s0.ag+1 }) st b) a w∧
   Fw c st w c' (sO (fun s=>{ s with box:=some (bW b (s0.ag+1) 0 os),bU:=cj os,ag:=s0.ag+1 }) st b) w∧Pass c c' (fun l=>(∀y,l≠.dE i y)∧l≠.xz i):=by
 obtain ⟨rh,vs,ty,h1,h2,h3,h4⟩:=hB;obtain ⟨lcs,g1,g2⟩:=cF.cells os 0 _ h4;rw [hv] at h1;have e:c.bx b=rh:=by injection h1 with h1;injection h1 with h1;injection h1
 obtain ⟨_,ahG,hg',YL⟩:=ka G4;rw [mY] at ahG;cases ahG
 let c':=c.ia (tY i b) c.bx (fun s j=>if s=b then lcs j else c.lc s j)
 let bQ:=sO (fun s=>{ s with box:=some (bW b (s0.ag+1) 0 os),bU:=cj os,ag:=s0.ag+1 }) st b
 have hn:∀s,nth bQ s=if s=b then some { s0 with box:=some (bW b (s0.ag+1) 0 os),bU:=cj os,ag:=s0.ag+1 } else nth st s:=by
  intro s;show nth (sO _ st b) s=_;rw [lf]
  by_cases e:s=b
  ·subst e;simp [mY]
  ·simp [e]
 have Nb:gP bQ b=s0.ag+1:=by unfold gP;rw [hn];simp
 have Nc:gP st b=s0.ag:=by unfold gP;rw [mY]
 have ht:=Ja i b;have lU:Fw c st w c' bQ w:={
  stays:=rz c w _ _ _
  refs:=fun a' j' g' A' hg iB=>by
   obtain ⟨sl,k1,k2,k3⟩:=dK iB;rw [hn] at k1
   by_cases e:a'=b
   ·rw [if_pos e] at k1
    cases k1
    subst e;simp only at k2;omega
   ·rw [if_neg e] at k1;exact ⟨A',BF k1 k2 k3,rfl,rfl,by show (if a'=b then _ else _)=_;rw [if_neg e],fun _=>⟨rfl,fun _ _ _ _=>rfl⟩⟩
  GY:=fun b' g' rZ hg Pj=>by
   obtain ⟨sl,k1,k2,k3⟩:=ka Pj;rw [hn] at k1
   by_cases e:b'=b
   ·rw [if_pos e] at k1
    cases k1
    subst e;exact ⟨⟨UH,by unfold fV;rw [mY];simp at k2;simp [k2,YL]⟩,rfl⟩
   ·rw [if_neg e] at k1;exact ⟨⟨rZ,by unfold fV;rw [k1];simp [k2,k3]⟩,rfl⟩
  gA:=fun a'=>by
   by_cases e:a'=b
   ·subst e;rw [Nb,Nc];omega
   ·unfold gP;rw [hn,if_neg e];exact Nat.le_refl _
  gB:=fun a'=>by
   by_cases e:a'=b
   ·subst e;unfold j5;rw [hn,if_pos rfl,mY];exact Nat.le_refl _
   ·unfold j5;rw [hn,if_neg e];exact Nat.le_refl _
  gE:=fun a'=>by
   by_cases e:a'=b
   ·subst e;unfold wu;rw [hn,if_pos rfl,mY];exact Nat.le_refl _
   ·unfold wu;rw [hn,if_neg e];exact Nat.le_refl _ }
 have Nd:∀k A,cO bQ b k (s0.ag+1)=some A→nth (cj os) k=some (some A):=by
  intro k A hA;obtain ⟨sl,k1,k2,k3⟩:=dK hA;rw [hn,if_pos rfl] at k1
  cases k1
  exact k3
 refine ⟨c',h.ia ht lU (fun t => ?_) (fun s sl cs hX hs hb => ?_) (fun s j sl A hX hs hA => ?_),lU,⟨fun k l hl hk => ?_,fun k hk=>Cz.se.2 hk⟩⟩
 ·have:dN bQ t=dN st t:=by
   unfold dN;rw [hn]
   by_cases e:t=b
   ·subst e;rw [if_pos rfl,mY]
   ·rw [if_neg e]
  rw [this];exact lU.u6 (h.jj t)
 ·rw [hn] at hs
  by_cases e':s=b
  ·subst e';rw [if_pos rfl] at hs
   cases hs
   simp only [Option.some.injEq] at hb;subst hb;refine ⟨?_,vs,ty,by show w.heap[c.bx s]?=_;rw [e];exact h3,?_⟩
   ·show (c.own (c.bx s)).map (tY i s)=some (.box s);rw [e,h2];simp [tY]
   ·exact g2 c' bQ s (s0.ag+1) (fun b hb=>Cz.se.2 hb) (fun k _=>by show (if s=s then _ else _)=_;rw [if_pos rfl]) (fun k A _ hA=>Nd k A (by simpa using hA)) (by rw [Nb];exact Nat.le_refl _)
  ·rw [if_neg e'] at hs;exact (h.boxes s sl cs (fun Sz=>hX ⟨Sz,by rintro e2;injection e2 with e2;exact e' e2⟩) hs hb).ia ht lU rfl
 ·rw [hn] at hs
  by_cases e':s=b
  ·subst e';rw [if_pos rfl] at hs
   cases hs
   obtain ⟨v',w7⟩:=g1 j A hA;exact w7.arr (by simp) (by simp [tY])
  ·rw [if_neg e'] at hs;exact (h.bU s j sl A (fun Sz=>hX ⟨Sz,by simp⟩) hs hA).ia ht (by simp [e'])
 ·show (c.own k).map (tY i b)=_;rw [hk];simp only [Option.map_some,Option.some.injEq]
  cases l with
  |dE x y=>simp only [tY];rw [if_neg];rintro rfl;exact hl.1 y rfl
  |xz x=>simp only [tY];rw [if_neg];rintro rfl;exact hl.2 rfl
  |_=>rfl
end Go.TM
namespace Go.TM
open Go Go.RowKit
def Lb.Nf:Lb→Option Lb
 |.dE i j=>some (.dE i j)
 |.xz i=>some (.xz i)
 |.kO j=>some (.kO j)
 |_=>none
noncomputable def Cz.merge (c c1:Cz) (n:Nat) (m:Nat→Prop):Cz:=
 { bx:=c.bx,lc:=c.lc,own:=fun b=>have:=Classical.propDecidable (b<n∧¬m b);if b<n∧¬m b then c.own b else (c1.own b).bind Lb.Nf }
theorem Cz.xC {c c1:Cz} {n:Nat} {m:Nat→Prop} {b:Nat} (h:b<n∧¬m b):(c.merge c1 n m).own b=c.own b:=by
 unfold Cz.merge;simp only;rw [if_pos h]
theorem Cz.EH {c c1:Cz} {n:Nat} {m:Nat→Prop} {b:Nat} (h:¬(b<n∧¬m b)):(c.merge c1 n m).own b=(c1.own b).bind Lb.Nf:=by
 unfold Cz.merge;simp only;rw [if_neg h]
theorem SA {u:List Lb} {a j:Nat} (h:Lb.sp a j∈u):qa u a=true:=by
 unfold qa;exact List.any_eq_true.2 ⟨_,h,by simp⟩
theorem JV (u:List Lb):(st:St)→(a s:Nat)→nth (tQ u a st) s=(nth st s).map fun x=>bif qa u (a+s) then { x with ep:=x.ep+1 } else x
 | [],_,_=>rfl
 |x::l,a,0=>rfl
 |x::l,a,s+1=>by
  show nth (tQ u (a+1) l) s=_;rw [JV u l (a+1) s,show a+1+s=a+(s+1) by omega];rfl
theorem vi (u:List Lb) (st:St) (s:Nat):nth (tQ u 0 st) s=(nth st s).map fun x=>bif qa u s then { x with ep:=x.ep+1 } else x:=by
 rw [JV,Nat.zero_add]
theorem SB (u:List Lb) (st:St) (t:Nat):dN (tQ u 0 st) t=dN st t:=by
 unfold dN;rw [vi]
 cases nth st t<;>cases qa u t<;>rfl
theorem SC (u:List Lb) (st:St) (a j g:Nat):cO (tQ u 0 st) a j g=cO st a j g:=by
 unfold cO;rw [vi]
 cases nth st a<;>cases qa u a<;>rfl
theorem SD (u:List Lb) (st:St) (b g:Nat):fV (tQ u 0 st) b g=fV st b g:=by
 unfold fV;rw [vi]
 cases nth st b<;>cases qa u b<;>rfl
theorem Ng (u:List Lb) (st:St) (a:Nat):gP (tQ u 0 st) a=gP st a∧j5 (tQ u 0 st) a=j5 st a:=by
 unfold gP j5;rw [vi]
 cases nth st a<;>cases qa u a<;>exact ⟨rfl,rfl⟩
theorem Nh (u:List Lb) (st:St) (a:Nat):wu st a≤wu (tQ u 0 st) a∧(wu (tQ u 0 st) a=wu st a→nth st a=none∨qa u a=false):=by
 unfold wu;rw [vi]
 cases nth st a<;>cases qa u a<;>simp
theorem Rel.ahH {w0:World} {mu:Mu} {c:Cz} {st:St} {a:Act} {w:World} (h:Rel w0 mu c st a w) {μ:Mu} {c1:Cz} {w':World} (hb:FN w μ c1 w') {X:Lb→Prop} (hm:∀b,μ.m b→∃l,c.own b=some l∧X l) (hX:∀l,X l→l≠.out) {u:List Lb} (hu:∀a j,X (.sp a j)→qa u a=true) :
  nz X w0 mu (c.merge c1 w.heap.size μ.m) (tQ u 0 st) a w'∧Fw c st w (c.merge c1 w.heap.size μ.m) (tQ u 0 st) w'∧(∀b l,c.own b=some l→¬X l→w'.heap[b]?=w.heap[b]?∧(c.merge c1 w.heap.size μ.m).own b=c.own b)∧(∀b l,l.Nf=some l→c1.own b=some l→(c.merge c1 w.heap.size μ.m).own b=some l)∧((∀b,μ.ok b→c.own b=none)→∀b,c1.ok b→(c.merge c1 w.heap.size μ.m).ok b):=by
 have py:w.heap.size≤w'.heap.size:=hb.kept.2.2.2;have x9:lk w w' c.ok (c.merge c1 w.heap.size μ.m).ok:={
  size:=py
  block:=fun b dM iP=>hb.old b dM (fun MO=>by
   obtain ⟨l,hl,_⟩:=hm b MO;unfold Cz.ok at iP;rw [iP] at hl;cases hl)
  ok:=fun b dM iP=>by
   unfold Cz.ok;rw [Cz.xC ⟨dM,fun MO=>by
    obtain ⟨l,hl,_⟩:=hm b MO;unfold Cz.ok at iP;rw [iP] at hl;cases hl⟩]
   exact iP }
 have keep:∀b l,c.own b=some l→¬X l→w'.heap[b]?=w.heap[b]?∧(c.merge c1 w.heap.size μ.m).own b=c.own b:=by
  intro b l hl hn;have dM:=(h.owned b l hl).1;have MO:¬μ.m b:=fun MO=>by
   obtain ⟨l',By,hx⟩:=hm b MO;rw [hl] at By;cases By;exact hn hx
  exact ⟨hb.old b dM MO,Cz.xC ⟨dM,MO⟩⟩
 have lU:Fw c st w (c.merge c1 w.heap.size μ.m) (tQ u 0 st) w':={
  stays:=x9
  refs:=fun a' j g A' _ hA=>by
   rw [SC] at hA;refine ⟨A',hA,rfl,rfl,rfl,fun he => ?_⟩;rcases (Nh u st a').2 he with e | e
   ·unfold cO at hA;rw [e] at hA
    cases hA
   ·have lO:∀j,¬X (.sp a' j):=fun j hx=>by rw [hu a' j hx] at e;cases e
    obtain ⟨sl0,mY,_,UI⟩:=dK hA;have h0:=h.bU a' j sl0 A' mY UI;refine ⟨rfl,fun b o cap np => ?_⟩;unfold fJ at h0;rw [np] at h0;have h1:=h0.1
    cases lq:A'.own with
    |true=>
     rw [lq] at h1;exact (keep b _ h1 (lO j)).1
    |false=>
     rw [lq] at h1;exact x9.block b (by obtain ⟨_,_,⟨cur,te,h3,_⟩,_⟩:=h0;exact (Array.getElem?_eq_some_iff.1 h3).1) h1
  GY:=fun b g cs _ hc=>⟨⟨cs,by rwa [SD] at hc⟩,rfl⟩
  gA:=fun a'=>by rw [(Ng u st a').1];exact Nat.le_refl _
  gB:=fun a'=>by rw [(Ng u st a').2];exact Nat.le_refl _
  gE:=fun a'=>(Nh u st a').1 }
 refine ⟨⟨fun t=>by rw [SB];exact lU.u6 (h.jj t),fun s sl cs hn hs G4 => ?_,fun s j sl A hn hs hA => ?_,fun b l hl => ?_,fun b dM hl => ?_,?_,fun k hk hmu => ?_,h.plain,fun p hp=>lU.hZ (h.hZ p hp)⟩,lU,keep,fun b l hk hl => ?_,fun iP b h1 => ?_⟩
 ·rw [vi] at hs;obtain ⟨sl0,mY,rfl⟩:=Option.map_eq_some_iff.1 hs;have h0:=h.boxes s sl0 cs mY (by cases hq:qa u s<;>rw [hq] at G4<;>exact G4);obtain ⟨k1,k2⟩:=keep _ _ h0.1 hn;exact h0.go lU rfl k2 k1
 ·rw [vi] at hs;obtain ⟨sl0,mY,rfl⟩:=Option.map_eq_some_iff.1 hs;have h0:=h.bU s j sl0 A mY (by cases hq:qa u s<;>rw [hq] at hA<;>exact hA);exact h0.go x9 rfl (fun b g1=>keep b _ g1 hn)
 ·by_cases e:b<w.heap.size∧¬μ.m b
  ·rw [Cz.xC e] at hl;have:=h.owned b l hl;exact ⟨Nat.lt_of_lt_of_le this.1 py,this.2⟩
  ·rw [Cz.EH e] at hl;obtain ⟨k,hk,e2⟩:=Option.bind_eq_some_iff.1 hl;obtain ⟨g1,g2⟩:=hb.owned b k hk;refine ⟨g1,.inr ?_⟩;have I4:k≠.out:=by rintro rfl;simp [Lb.Nf] at e2
   by_cases dM:b<w.heap.size
   ·have MO:μ.m b:=Classical.not_not.1 (fun h=>e ⟨dM,h⟩);obtain ⟨l',By,hx⟩:=hm b MO;rcases (h.owned b l' By).2 with q | q
    ·exact absurd q (hX l' hx)
    ·exact q
   ·have:=h.kept.2.2.2;exact .inl (by omega)
 ·by_cases e:b<w.heap.size∧¬μ.m b
  ·rw [Cz.xC e] at hl;exact h.free b dM hl
  ·have aa8:b<w.heap.size:=Nat.lt_of_lt_of_le dM h.kept.2.2.2;have MO:μ.m b:=Classical.not_not.1 (fun h=>e ⟨aa8,h⟩);obtain ⟨l',By,hx⟩:=hm b MO;rcases (h.owned b l' By).2 with q | q | q
   ·exact absurd q (hX l' hx)
   ·omega
   ·exact .inl q
 ·exact ⟨hb.kept.1.trans h.kept.1,hb.kept.2.1.trans h.kept.2.1,hb.kept.2.2.1.trans h.kept.2.2.1,Nat.le_trans h.kept.2.2.2 py⟩
 ·have aa8:k<w.heap.size:=Nat.lt_of_lt_of_le hk h.kept.2.2.2;rw [hb.old k aa8 (fun MO => ?_)]
  ·exact h.old k hk hmu
  ·obtain ⟨l',By,hx⟩:=hm k MO;rcases (h.owned k l' By).2 with q | q | q
   ·exact hX l' hx q
   ·omega
   ·exact hmu q
 ·rw [Cz.EH (fun e => ?_),hl]
  ·exact hk
  ·rcases (hb.owned b l hl).2 with q | q | q
   ·subst q;simp [Lb.Nf] at hk
   ·omega
   ·exact e.2 q
 ·unfold Cz.ok at h1 ⊢
  by_cases e:b<w.heap.size∧¬μ.m b
  ·rw [Cz.xC e];rcases hb.free b e.1 h1 with q | q
   ·exact absurd q e.2
   ·exact iP b q
  ·rw [Cz.EH e,h1];rfl
theorem Cz.Ni (c:Cz) (bx:Nat→Nat) (lc:Nat→Nat→Loc):(c.ia id bx lc).own=c.own:=by
 funext b
 unfold Cz.ia;simp
theorem Cm {w0:World} {mu:Mu} {a:Act} {w:World}:(ks:List Lb)→{X:Lb→Prop}→{c:Cz}→{st:St}→nz X w0 mu c st a w→
  ∃c',nz (fun l=>X l∧∀s j,Lb.sp s j∈ks→l≠.sp s j) w0 mu c' (sa st ks) a w∧Fw c st w c' (sa st ks) w∧c'.own=c.own
 | [],X,c,st,h=>⟨c,h.mono (fun l hl=>⟨hl,by simp⟩),Fw.refl c st w,rfl⟩
 |k::ks,X,c,st,h=>by
  have skip:sa st (k::ks)=sa st ks→(∀s j,k≠.sp s j)→∃c',nz (fun l=>X l∧∀s j,Lb.sp s j∈k::ks→l≠.sp s j) w0 mu c' (sa st (k::ks)) a w∧Fw c st w c' (sa st (k::ks)) w∧c'.own=c.own:=by
   intro e hk;obtain ⟨c',h1,h2,h3⟩:=Cm ks h;rw [e];refine ⟨c',h1.mono (fun l hl=>⟨hl.1,fun s j hm => ?_⟩),h2,h3⟩;rcases List.mem_cons.1 hm with e2 | hm
   ·exact absurd e2.symm (hk s j)
   ·exact hl.2 s j hm
  cases k with
  |sp s j=>
   obtain ⟨h1,h2⟩:=h.kill s j;obtain ⟨c',h3,h4,h5⟩:=Cm ks h1;refine ⟨c',h3.mono (fun l hl=>⟨hl.1.1,fun s' j' hm => ?_⟩),h2.trans h4,h5.trans (Cz.Ni _ _ _)⟩;rcases List.mem_cons.1 hm with e2 | hm
   ·cases e2;exact hl.1.2
   ·exact hl.2 s' j' hm
  |_=>exact skip rfl (by simp)
def EI (m:Pm):V→List Lb
 |.one (.ptr b _ _)=>[.box b]
 |.one (.ref a j _ _)=>match m with
  |.io=>[.sp a j]
  |_=>[]
 |.agg cs=>match m with
  |.dZ=>cs.filterMap fun x=>match x with | .ref a j _ _=>some (.sp a j) | _=>none
  |_=>[]
 |_=>[]
def Vt (st:St) (m:Pm×V) (av:AV):Prop:=∃u q r,jH st m.1 m.2=some (av,u,q,r)
theorem Nj {st:St} {own:Bool}:(cs:List CV)→{os:List OV}→{u:List (Option Lb)}→{r:List (Nat×Nat)}→jw st own cs=some (os,u,r)→∀(k:Nat) {a j g:Nat} ,cs[k]?=some (.ref a j g .full)→os[k]?=(cO st a j g).map fun A=>bif own&&A.own then .own A else .shr A.r A.xs
 | [],_,_,_,h=>by intro k a j g hk;simp at hk
 |x::cs,os,u,r,h=>by
  unfold jw at h
  cases hc:lj st own x with
  |none=>simp [hc] at h
  |some p=>
   obtain ⟨o,u1,r1⟩:=p
   cases hq:jw st own cs with
   |none=>simp [hc,hq] at h
   |some q=>
    obtain ⟨EA,us,rs⟩:=q;simp only [hc,hq,Option.some.injEq,Prod.mk.injEq] at h;obtain ⟨rfl,rfl,_⟩:=h;intro k a j g hk
    cases k with
    |succ k=>simpa using Nj cs hq k (by simpa using hk)
    |zero=>
     simp only [List.getElem?_cons_zero,Option.some.injEq] at hk;subst hk;unfold lj at hc;simp only at hc
     cases hA:cO st a j g with
     |none=>simp [hA] at hc
     |some A=>
      simp only [hA] at hc
      cases hm:A.md.Sa with
      |true=>simp [hm] at hc
      |false=>
      simp only [hm,cond_false,View.isFull,Bool.or_true,Bool.and_true] at hc
      cases hb:(own&&A.own)<;>simp only [hb,cond_true,cond_false,Option.some.injEq,Prod.mk.injEq] at hc<;>obtain ⟨rfl,_⟩:=hc<;>simp [hb,View.app]
theorem Hj {w0 wb:World} {mu:Mu} {a:Act} {w:World} {c0:Cz} {EB:St} {i:Nat} {As:List (Option nu)}:(cs:List CV)→(j0:Nat)→(us:List Value)→{X:Lb→Prop}→{c:Cz}→{st bQ:St}→nz X w0 mu c st a w→Fw c0 EB wb c st w→
  (∀(k:Nat) (x:CV) (v:Value),cs[k]?=some x→us[k]?=some v→qd c0 EB wb x v)→
  (∀(k s j g:Nat) (vw:View),cs[k]?=some (.ref s j g vw)→∃A B u,cO EB s j g=some A∧nth As (j0+k)=some (some B)∧us[k]?=some u∧B.r.width=A.r.width∧B.xs.length=A.xs.length∧OwnAt c w (.dE i (j0+k)) (c0.lc s j) B u)→
  GW st j0 cs As=some bQ→
  ∃c',nz (fun l=>X l∧∀s j g vw,CV.ref s j g vw∈cs→l≠.sp s j) w0 mu c' bQ a w∧Fw c0 EB wb c' bQ w∧Pass c c' (fun l=>∀y,l≠.dE i y)
 | [],j0,us,X,c,st,bQ,h,lU,_,_,hv=>by
  simp only [GW,Option.some.injEq] at hv;subst hv;exact ⟨c,h.mono (fun l hl=>⟨hl,by simp⟩),lU,⟨fun _ _ _ h=>h,fun _ h=>h⟩⟩
 |x::cs,j0,us,X,c,st,bQ,h,lU,hr,hB,hv=>by
  have skip:(∀s j g vw,x≠.ref s j g vw)→GW st (j0+1) cs As=some bQ→∃c',nz (fun l=>X l∧∀s j g vw,CV.ref s j g vw∈x::cs→l≠.sp s j) w0 mu c' bQ a w∧Fw c0 EB wb c' bQ w∧Pass c c' (fun l=>∀y,l≠.dE i y):=by
   intro hx hv;obtain ⟨c',g1,g2,g3⟩:=Hj (i:=i) cs (j0+1) us.tail h lU (fun k y v hk hv=>hr (k+1) y v (by simpa using hk) (by simpa using hv)) (fun k s j g vw hk=>by
    obtain ⟨A,B,u,q1,q2,q3,q4,q5,q6⟩:=hB (k+1) s j g vw (by simpa using hk);refine ⟨A,B,u,q1,by rw [show j0+1+k=j0+(k+1) by omega];exact q2,by simpa using q3,q4,q5,by rw [show j0+1+k=j0+(k+1) by omega];exact q6⟩) hv
   refine ⟨c',g1.mono (fun l hl=>⟨hl.1,fun s j g vw hm => ?_⟩),g2,g3⟩;rcases List.mem_cons.1 hm with e | hm
   ·exact absurd e.symm (hx s j g vw)
   ·exact hl.2 s j g vw hm
  cases x with
  |ref s j g vw=>
   unfold GW at hv
   split at hv
   ·rename_i B A1 hnB hA1;obtain ⟨A,B',u,q1,q2,q3,q4,q5,q6⟩:=hB 0 s j g vw rfl;rw [Nat.add_zero] at q2 q6;rw [hnB] at q2;simp only [Option.some.injEq] at q2;subst q2;have hr0:=hr 0 _ u rfl q3;obtain ⟨A0',p1,p2,p3,p4,_⟩:=lU.refs s j g A1 hr0.2.1 hA1;rw [q1] at p1;cases p1;have hO':OwnAt c w (.dE i j0) (c.lc s j) B u:=by rw [p4];exact q6
    obtain ⟨g1,g2⟩:=h.io hA1 (q4.trans p2.symm) (q5.trans p3.symm) hO';have JW:∀b l,l≠.dE i j0→c.own b=some l→(c.ia (w9 i j0 s j) c.bx c.lc).own b=some l:=by
     intro b l hl hb;show (c.own b).map _=_;rw [hb];simp only [Option.map_some,Option.some.injEq]
     cases l with
     |dE x y=>simp only [w9];rw [if_neg];rintro ⟨rfl,rfl⟩;exact hl rfl
     |_=>rfl
    obtain ⟨c',k1,k2,k3⟩:=Hj (i:=i) cs (j0+1) us.tail g1 (lU.trans g2) (fun k y v hk hv=>hr (k+1) y v (by simpa using hk) (by simpa using hv)) (fun k s' j' g' vw' hk=>by
     obtain ⟨A,B,u,q1,q2,q3,q4,q5,q6⟩:=hB (k+1) s' j' g' vw' (by simpa using hk);refine ⟨A,B,u,q1,by rw [show j0+1+k=j0+(k+1) by omega];exact q2,by simpa using q3,q4,q5,?_⟩;rw [show j0+1+k=j0+(k+1) by omega];exact q6.pass (fun b hb=>JW b _ (by simp) hb) (.inl fun b hb=>Cz.se.2 hb)) hv
    refine ⟨c',k1.mono (fun l hl=>⟨hl.1.1,fun s' j' g' vw' hm => ?_⟩),k2,⟨fun b l hl hb=>k3.dE b l hl (JW b l (hl j0) hb),fun b hb=>k3.ok b (Cz.se.2 hb)⟩⟩;rcases List.mem_cons.1 hm with e | hm
    ·cases e;exact hl.1.2
    ·exact hl.2 s' j' g' vw' hm
   ·cases hv
  |_=>exact skip (by simp) hv
theorem Hk {w0 wb:World} {mu:Mu} {a:Act} {w:World} {c0:Cz} {EB:St} {lc:Nat→Nat→Loc}:(ms:List (Pm×V))→(i:Nat)→(ga:List AV)→(xs:List Value)→(es:List XV)→{X:Lb→Prop}→{c:Cz}→{st bQ:St}→nz X w0 mu c st a w→Fw c0 EB wb c st w→
  (∀(k:Nat) (m:Pm×V) (x:Value),ms[k]?=some m→xs[k]?=some x→il c0 EB wb m.2 x)→(∀(k:Nat) (m:Pm×V) (av:AV),ms[k]?=some m→ga[k]?=some av→Vt EB m av)→ms.length=ga.length→ms.length=xs.length→(∀(k:Nat) (m:Pm×V),ms[k]?=some m→lc (i+k)=FO c0 m.2)→
  kC c w lc i ga xs es→yf st ms es=some bQ→
  ∃c',nz (fun l=>X l∧∀m∈ms,l∉EI m.1 m.2) w0 mu c' bQ a w∧Fw c0 EB wb c' bQ w∧Pass c c' (fun l=>(∃j,l=.kO j)∨l.real=true)
 | [],i,ga,xs,es,X,c,st,bQ,h,lU,_,_,_,_,_,hx,hv=>by
  cases es with
  |nil=>
   simp only [yf,Option.some.injEq] at hv;subst hv;exact ⟨c,h.mono (fun l hl=>⟨hl,by simp⟩),lU,⟨fun _ _ _ h=>h,fun _ h=>h⟩⟩
  |cons _ _=>simp [yf] at hv
 |(m,v)::ms,i,[],xs,es,X,c,st,bQ,h,lU,hr,he,hn,hn2,np,hx,hv=>by simp at hn
 |(m,v)::ms,i,av::ga,[],es,X,c,st,bQ,h,lU,hr,he,hn,hn2,np,hx,hv=>by simp at hn2
 |(m,v)::ms,i,av::ga,x::xs,es,X,c,st,bQ,h,lU,hr,he,hn,hn2,np,hx,hv=>by
  have hr0:=hr 0 (m,v) x rfl rfl;obtain ⟨u,q,r,wm⟩:=he 0 (m,v) av rfl rfl;have aa9:=np 0 (m,v) rfl;simp only [Nat.add_zero] at aa9;have hr':∀(k:Nat) (m:Pm×V) (x:Value),ms[k]?=some m→xs[k]?=some x→il c0 EB wb m.2 x:=fun k m' x' h1 h2=>hr (k+1) m' x' (by simpa using h1) (by simpa using h2)
  have he':∀(k:Nat) (m:Pm×V) (av:AV),ms[k]?=some m→ga[k]?=some av→Vt EB m av:=fun k m' x' h1 h2=>he (k+1) m' x' (by simpa using h1) (by simpa using h2)
  have aaX:∀(k:Nat) (m:Pm×V),ms[k]?=some m→lc (i+1+k)=FO c0 m.2:=fun k m' h1=>by
   have:=np (k+1) m' (by simpa using h1)
   rwa [show i+(k+1)=i+1+k by omega] at this
  have YM:ms.length=ga.length:=by simpa using hn
  have amB:ms.length=xs.length:=by simpa using hn2
  unfold yf at hv
  cases hb:wC st m v es with
  |none=>simp [hb] at hv
  |some p=>
   obtain ⟨G3,es1⟩:=p;simp only [hb] at hv;have go:∀ {X1:Lb→Prop} {c1:Cz},nz X1 w0 mu c1 G3 a w→Fw c0 EB wb c1 G3 w→(∀l,X1 l→X l∧l∉EI m v)→kC c1 w lc (i+1) ga xs es1→Pass c c1 (fun l=>(∃j,l=.kO j)∨l.real=true)→
     ∃c',nz (fun l=>X l∧∀m'∈(m,v)::ms,l∉EI m'.1 m'.2) w0 mu c' bQ a w∧Fw c0 EB wb c' bQ w∧Pass c c' (fun l=>(∃j,l=.kO j)∨l.real=true):=by
    intro X1 c1 g1 g2 g3 g4 g5;obtain ⟨c',k1,k2,k3⟩:=Hk ms (i+1) ga xs es1 g1 g2 hr' he' YM amB aaX g4 hv;refine ⟨c',k1.mono (fun l hl=>⟨(g3 l hl.1).1,fun m' MO => ?_⟩),k2,⟨fun b l hl hb=>k3.dE b l hl (g5.dE b l hl hb),fun b hb=>k3.ok b (g5.ok b hb)⟩⟩;rcases List.mem_cons.1 MO with rfl | MO
    ·exact (g3 l hl.1).2
    ·exact hl.2 m' MO
   have nY:EI m v=[]→G3=st→es1=es→(∃ag os,av=.val ag os)→∃c',nz (fun l=>X l∧∀m'∈(m,v)::ms,l∉EI m'.1 m'.2) w0 mu c' bQ a w∧Fw c0 EB wb c' bQ w∧Pass c c' (fun l=>(∃j,l=.kO j)∨l.real=true):=by
    rintro e1 rfl rfl ⟨ag,os,rfl⟩
    exact go h lU (fun l hl=>⟨hl,by rw [e1];simp⟩) hx ⟨fun _ _ _ h=>h,fun _ h=>h⟩
   cases v with
   |p8 us=>simp [jH] at wm
   |agg cs=>
    have yn:∀u q r,(match jw EB m.re cs with | some (os,u,r)=>some (AV.val true os,dO u,dO u,r) | none=>none)=some (av,u,q,r)→∃ag os,av=.val ag os:=by
     intro u q r wm
     cases hq:jw EB m.re cs with
     |none=>simp [hq] at wm
     |some p=>
      obtain ⟨os,us,rs⟩:=p;simp only [hq,Option.some.injEq,Prod.mk.injEq] at wm;exact ⟨_,_,wm.1.symm⟩
    unfold jH at wm
    cases m with
    |shr=>
     simp only [wC,Option.some.injEq,Prod.mk.injEq] at hb;exact nY rfl hb.1.symm hb.2.symm (yn _ _ _ wm)
    |own=>
     simp only [wC,Option.some.injEq,Prod.mk.injEq] at hb;exact nY rfl hb.1.symm hb.2.symm (yn _ _ _ wm)
    |pick _=>
     simp only [wC,Option.some.injEq,Prod.mk.injEq] at hb;exact nY rfl hb.1.symm hb.2.symm (yn _ _ _ wm)
    |io=>
     simp only [wC,Option.some.injEq,Prod.mk.injEq] at hb;exact nY rfl hb.1.symm hb.2.symm (yn _ _ _ wm)
    |dZ=>
     simp only at wm
     cases hq:jw EB true cs with
     |none=>simp [hq] at wm
     |some p=>
      obtain ⟨os,us,rs⟩:=p;simp only [hq] at wm;obtain ⟨lu,BQ⟩:=bJ wm;simp only [Option.some.injEq,Prod.mk.injEq] at BQ;obtain ⟨rfl,_⟩:=BQ;obtain ⟨As,l,rfl,⟨us',rfl,hX⟩,gS⟩:=hx;unfold wC at hb;obtain ⟨lV,MP,e2⟩:=Option.map_eq_some_iff.1 hb;injection e2 with e2 e3;subst e2 e3;obtain ⟨vs0,e0,hl0⟩:=hr0;injection e0 with e0;subst e0;obtain ⟨c1,g1,g2,g3⟩:=Hj (i:=i) (As:=As) cs 0 us'.toList h lU (fun k x v hk hv=>hl0.2 k x v hk (by simpa using hv)) (fun k s j g vw hk=>by
       have Gu:=List.mem_of_getElem? hk;have I5:=List.all_eq_true.1 lu _ Gu;unfold UX at I5;rw [Bool.and_eq_true] at I5
       cases hA:cO EB s j g with
       |none=>rw [hA] at I5;cases I5.2
       |some A=>
        have Vs:vw=.full:=by
         cases vw with
         |full=>rfl
         |«from» _=>cases I5.1
         |sub _ _=>cases I5.1
        subst Vs;rw [hA] at I5;have ho:os[k]?=some (.own A):=by
         have:=Nj cs hq k hk;rw [hA] at this;have Sr:A.own=true:=I5.2;simpa [Sr] using this
        obtain ⟨B,u,k1,k2,k3,k4,k5⟩:=hX k A ho;refine ⟨A,B,u,rfl,by rw [Nat.zero_add];exact k1,k2,k3,k4,?_⟩;have:lc i k=c0.lc s j:=by
         rw [aa9];show Pv c0 cs[k]?=_;rw [hk];rfl
        rw [←this,Nat.zero_add];exact k5) MP
      refine go g1 g2 (fun l hl=>⟨hl.1,fun hm => ?_⟩) ?_ ⟨fun b l hl=>g3.dE b l (hl.elim (by rintro ⟨j,rfl⟩;simp) (by intro h;cases l<;>simp_all [Lb.real])),g3.ok⟩
      ·obtain ⟨x,Pn,LK⟩:=List.mem_filterMap.1 hm
       cases x with
       |ref s j g vw=>simp only [Option.some.injEq] at LK;exact hl.2 s j g vw Pn LK.symm
       |_=>cases LK
      ·exact kC.pass ga (i+1) (fun b k hk hb=>g3.dE b _ (by simp) hb) (fun b k j hk hb=>g3.dE b _ (by intro y;simp;omega) hb) xs _ (.inl g3.ok) gS
   |one cx=>
    cases cx with
    |ptr b g off=>
     unfold wC at hb
     cases es with
     |nil=>simp at hb
     |cons e es2=>cases e with
      |io _=>simp at hb
      |dZ _=>simp at hb
      |box os=>
       simp only at hb
       split at hb
       ·rename_i s0 UH mY YL;simp only [Option.some.injEq,Prod.mk.injEq] at hb;obtain ⟨rfl,rfl⟩:=hb;have Nk:∃os0,av=.box os0:=by
         unfold jH at wm;simp only at wm
         cases hq:fV EB b g with
         |none=>simp [hq] at wm
         |some cs=>
          simp only [hq] at wm
          cases MZ:jw EB true cs with
          |none=>simp [MZ] at wm
          |some p=>
           obtain ⟨EA,us,rs⟩:=p;simp only [MZ] at wm;obtain ⟨_,BQ⟩:=bJ wm;simp only [Option.some.injEq,Prod.mk.injEq] at BQ;exact ⟨_,BQ.1.symm⟩
        obtain ⟨os0,rfl⟩:=Nk;obtain ⟨os1,l,e1,hB,gS⟩:=hx
        cases e1
        have hp:=(lU.u6 (v:=x) hr0);have e2:=hp.2.2 UH YL;have e3:x=.pointer (some ⟨c.bx b,0,none⟩):=by
         obtain ⟨rh,vs,ty,q1,_⟩:=hB;rw [e2] at q1 ⊢;injection q1 with q1;injection q1 with q1;injection q1 with q1 q2;rw [q2]
        obtain ⟨c1,g1,g2,g3⟩:=h.boxed mY YL e3 hB;refine go g1 (lU.trans g2) (fun l hl=>⟨hl.1,by simp [EI];exact hl.2⟩) ?_ ⟨fun b l hl=>g3.dE b l (hl.elim (by rintro ⟨j,rfl⟩;simp) (by intro h;cases l<;>simp_all [Lb.real])),g3.ok⟩;exact kC.pass ga (i+1) (fun b k hk hb=>g3.dE b _ (by constructor<;>simp;omega) hb) (fun b k j hk hb=>g3.dE b _ (by constructor<;>simp;omega) hb) xs es2 (.inl g3.ok) gS
       ·cases hb
    |ref s j g vw=>
     have yn:m≠.io→∃ag os,av=.val ag os:=by
      intro hm;unfold jH at wm
      cases m with
      |io=>exact absurd rfl hm
      |shr=>
       cases hq:jw EB Pm.shr.re [.ref s j g vw] with
       |none=>simp [hq] at wm
       |some p=>obtain ⟨os,us,rs⟩:=p;simp only [hq,Option.some.injEq,Prod.mk.injEq] at wm;exact ⟨_,_,wm.1.symm⟩
      |dZ=>
       cases hq:jw EB Pm.dZ.re [.ref s j g vw] with
       |none=>simp [hq] at wm
       |some p=>obtain ⟨os,us,rs⟩:=p;simp only [hq,Option.some.injEq,Prod.mk.injEq] at wm;exact ⟨_,_,wm.1.symm⟩
      |own=>
       cases hq:jw EB Pm.own.re [.ref s j g vw] with
       |none=>simp [hq] at wm
       |some p=>obtain ⟨os,us,rs⟩:=p;simp only [hq,Option.some.injEq,Prod.mk.injEq] at wm;exact ⟨_,_,wm.1.symm⟩
      |pick pl=>
       cases hq:jw EB (Pm.pick pl).re [.ref s j g vw] with
       |none=>simp [hq] at wm
       |some p=>obtain ⟨os,us,rs⟩:=p;simp only [hq,Option.some.injEq,Prod.mk.injEq] at wm;exact ⟨_,_,wm.1.symm⟩
     cases m with
     |shr=>
      simp only [wC,Option.some.injEq,Prod.mk.injEq] at hb;exact nY rfl hb.1.symm hb.2.symm (yn (by simp))
     |dZ=>
      simp only [wC,Option.some.injEq,Prod.mk.injEq] at hb;exact nY rfl hb.1.symm hb.2.symm (yn (by simp))
     |own=>
      simp only [wC,Option.some.injEq,Prod.mk.injEq] at hb;exact nY rfl hb.1.symm hb.2.symm (yn (by simp))
     |pick _=>
      simp only [wC,Option.some.injEq,Prod.mk.injEq] at hb;exact nY rfl hb.1.symm hb.2.symm (yn (by simp))
     |io=>
      unfold wC at hb;simp only at hb
      split at hb
      ·rename_i B es2 A2 Sr;simp only [Option.some.injEq,Prod.mk.injEq] at hb;obtain ⟨rfl,rfl⟩:=hb;have Nk:∃A0,av=.io A0∧cO EB s j g=some A0:=by
        unfold jH at wm
        cases vw with
        |full=>
         cases hA:cO EB s j g with
         |none=>simp [hA] at wm
         |some A=>
          simp only [hA] at wm;obtain ⟨_,BQ⟩:=bJ wm;simp only [Option.some.injEq,Prod.mk.injEq] at BQ;exact ⟨A,BQ.1.symm,rfl⟩
        |«from» _=>simp at wm
        |sub _ _=>simp at wm
       obtain ⟨A0,rfl,Sj⟩:=Nk;obtain ⟨B',l,e1,hw,hlen,hO,gS⟩:=hx
       cases e1
       obtain ⟨A0',q1,q2,q3,q4,_⟩:=lU.refs s j g A2 hr0.2.1 Sr;rw [Sj] at q1;cases q1;have hO':OwnAt c w (.dE i 0) (c.lc s j) B x:=by
        rw [q4];have:lc i 0=c0.lc s j:=by rw [aa9];rfl
        rw [←this];exact hO
       obtain ⟨g1,g2⟩:=h.io Sr (hw.trans q2.symm) (hlen.trans q3.symm) hO';have JW:∀b l,(∀y,l≠.dE i y)→c.own b=some l→(c.ia (w9 i 0 s j) c.bx c.lc).own b=some l:=by
        intro b l hl hb;show (c.own b).map _=_;rw [hb];simp only [Option.map_some,Option.some.injEq]
        cases l with
        |dE x y=>simp only [w9];rw [if_neg];rintro ⟨rfl,_⟩;exact hl y rfl
        |_=>rfl
       refine go g1 (lU.trans g2) (fun l hl=>⟨hl.1,by simp [EI];exact hl.2⟩) ?_ ⟨fun b l hl=>JW b l (hl.elim (by rintro ⟨j,rfl⟩;simp) (by intro h;cases l<;>simp_all [Lb.real])),fun b hb=>Cz.se.2 hb⟩;exact kC.pass ga (i+1) (fun b k hk hb=>JW b _ (by simp) hb) (fun b k j hk hb=>JW b _ (by intro y;simp;omega) hb) xs es2 (.inl fun b hb=>Cz.se.2 hb) gS
      ·cases hb
    |_=>
     simp only [wC,Option.some.injEq,Prod.mk.injEq] at hb;refine nY rfl hb.1.symm hb.2.symm ?_;unfold jH at wm;simp only at wm
     split at wm
     ·simp only [Option.some.injEq,Prod.mk.injEq] at wm;exact ⟨_,_,wm.1.symm⟩
     ·cases wm
end Go.TM
namespace Go.TM
open Go Go.RowKit
def Ds (d:Nat):Lb→Lb
 |.kO j=>.sp d j
 |l=>l
theorem Cc (d:Nat):FP (Ds d):=⟨fun l h=>by cases l<;>simp [Ds,Lb.real] at h ⊢⟩
theorem zS:(os ps:List OV)→cj (os++ps)=cj os++cj ps
 | [],ps=>rfl
 |o::os,ps=>by simp [cj,zS os ps]
theorem pk:(os:List OV)→(cj os).length=os.length
 | []=>rfl
 |o::os=>by simp [cj,pk os]
theorem Vu (d g j:Nat) (o:OV):∃x,bW d g j [o]=[x]:=by
 cases o<;>exact ⟨_,rfl⟩
theorem oB.vals {c:Cz} {w:World}:(rs:List RV)→(j:Nat)→(vs:List Value)→oB c w j rs vs→
  ∃lcs:Nat→Loc,(∀k A,nth (cj (rs.flatMap RV.Aj)) k=some (some A)→∃v,OwnAt c w (.kO (j+k)) (lcs (j+k)) A v)∧rs.length=vs.length∧(∀d g,(na d g j rs).length=rs.length)∧
   ∀(c2:Cz) (lV:St) (d g:Nat),(∀b,c.ok b→c2.ok b)→(∀k,k<(rs.flatMap RV.Aj).length→c2.lc d (j+k)=lcs (j+k))→(∀k A,k<(rs.flatMap RV.Aj).length→cO lV d (j+k) g=some A→nth (cj (rs.flatMap RV.Aj)) k=some (some A))→g≤gP lV d→
    ∀(k:Nat) (x:V) (v:Value),(na d g j rs)[k]?=some x→vs[k]?=some v→C6 c2 lV w x v
 | [],j,vs,h=>by
  subst h;exact ⟨fun _=>.nil,fun k A hA=>by simp [cj] at hA,rfl,fun _ _=>rfl,fun _ _ _ _ _ _ _ _ k x v hx=>by simp [na] at hx⟩
 |r::rs,j,vs,h=>by
  obtain ⟨v,l,us,rfl,hL,hR,hV⟩:∃(v:Value) (l us:List Value),vs=v::l∧cF c w .kO j r.Aj us∧oB c w (j+r.Aj.length) rs l∧
    (∀(c2:Cz) (lV:St) (d g:Nat),iQ c2 lV w (bW d g j r.Aj) us→C6 c2 lV w (US d g j r) v):=by
   cases r with
   |one o=>
    obtain ⟨v,l,h1,h2,h3⟩:=h;refine ⟨v,l,[v],h1,h2,h3,fun c2 lV d g hl => ?_⟩;unfold US;obtain ⟨x,hx⟩:=Vu d g j o;show C6 c2 lV w (match bW d g j [o] with | [c]=>.one c | _=>.one .bad) v;have hl:iQ c2 lV w (bW d g j [o]) [v]:=hl;rw [hx] at hl ⊢;exact hl.2 0 x v rfl rfl
   |agg os=>
    obtain ⟨us,l,h1,h2,h3⟩:=h;exact ⟨.agg us,l,us.toList,h1,h2,h3,fun c2 lV d g hl=>⟨us,rfl,hl⟩⟩
   |ptr os=>
    obtain ⟨v,l,h1,⟨rh,us,ty,_,_,_,g4⟩,h3⟩:=h;exact ⟨v,l,.slice none 0 0::us.toList,h1,⟨_,rfl,g4⟩,h3,fun _ _ _ _ _=>trivial⟩
  obtain ⟨l1,a1,a2⟩:=cF.cells r.Aj j us hL;obtain ⟨l2,b1,b2,b3,b4⟩:=oB.vals rs (j+r.Aj.length) l hR;have Z5:cj ((r::rs).flatMap RV.Aj)=cj r.Aj++cj (rs.flatMap RV.Aj):=by
   rw [List.flatMap_cons,zS]
  refine ⟨fun k=>if k<j+r.Aj.length then l1 k else l2 k,fun k A hA => ?_,by simp [b2],fun d g=>by simp [na,b3],fun c2 lV d g iP np EG hg k x v' hx w7 => ?_⟩
  ·rw [Z5,pA,pk] at hA
   by_cases e:k<r.Aj.length
   ·rw [if_pos e] at hA;have:=a1 k A hA;show ∃v,OwnAt c w _ (if j+k<_ then _ else _) A v;rw [if_pos (by omega)];exact this
   ·rw [if_neg e] at hA;have:=b1 _ A hA;rw [show j+r.Aj.length+(k-r.Aj.length)=j+k by omega] at this;show ∃v,OwnAt c w _ (if j+k<_ then _ else _) A v;rw [if_neg (by omega)];exact this
  ·rw [Z5] at EG;rw [List.flatMap_cons,List.length_append] at np EG
   cases k with
   |zero=>
    simp only [na,List.getElem?_cons_zero,Option.some.injEq] at hx w7;subst hx w7;refine hV c2 lV d g (a2 c2 lV d g iP (fun k hk => ?_) (fun k A hk hA => ?_) hg)
    ·have:c2.lc d (j+k)=if j+k<j+r.Aj.length then l1 (j+k) else l2 (j+k):=np k (by omega)
     rwa [if_pos (by omega)] at this
    ·have:=EG k A (by omega) hA
     rwa [pA,pk,if_pos hk] at this
   |succ k=>
    refine b4 c2 lV d g iP (fun k hk => ?_) (fun k A hk hA => ?_) hg k x v' (by simpa [na] using hx) (by simpa using w7)
    ·have:c2.lc d (j+(r.Aj.length+k))=if j+(r.Aj.length+k)<j+r.Aj.length then l1 (j+(r.Aj.length+k)) else l2 (j+(r.Aj.length+k)):=np (r.Aj.length+k) (by omega)
     rw [if_neg (by omega)] at this;rw [Nat.add_assoc];exact this
    ·rw [Nat.add_assoc] at hA;have:=EG (r.Aj.length+k) A (by omega) hA
     rwa [pA,pk,if_neg (by omega),Nat.add_sub_cancel_left] at this
def yo (d:Nat):Lb→Lb
 |.kO 0=>.box d
 |.kO (j+1)=>.sp d (j+1)
 |l=>l
theorem Cd (d:Nat):FP (yo d):=⟨fun l h=>by
 cases l with
 |kO j=>cases j<;>simp [yo,Lb.real] at h ⊢
 |_=>simp [yo,Lb.real] at h ⊢⟩
theorem nz.YN {X:Lb→Prop} {w0:World} {mu:Mu} {c:Cz} {st:St} {a:Act} {w:World} (h:nz X w0 mu c st a w) {d:Nat} {s0:Sl} {os:List OV} {v:Value} (mY:nth st d=some s0)
  (hv:∃rh us ty,v=.pointer (some ⟨rh,0,none⟩)∧c.own rh=some (.kO 0)∧w.heap[rh]?=some (.cells us ty (0,0))∧cF c w .kO 1 os us.toList) (hd:d<a.tmps.size) :
  ∃c',nz X w0 mu c' (sO (fun s=>{ s with v:=.one (.ptr d (s.bg+1) 0),box:=some (bW d (s.ag+1) 1 os),bg:=s.bg+1,bU:=none::cj os,ag:=s.ag+1 }) st d) (a.put (some d) v) w∧
   Fw c st w c' (sO (fun s=>{ s with v:=.one (.ptr d (s.bg+1) 0),box:=some (bW d (s.ag+1) 1 os),bg:=s.bg+1,bU:=none::cj os,ag:=s.ag+1 }) st d) w∧∀b l,l.real=true→c.own b=some l→c'.own b=some l:=by
 obtain ⟨rh,us,ty,rfl,lq,Vv,hL⟩:=hv;obtain ⟨lcs,g1,g2⟩:=cF.cells os 1 _ hL
 let c':=c.ia (yo d) (fun s=>if s=d then rh else c.bx s) (fun s j=>if s=d then lcs j else c.lc s j)
 let bQ:=sO (fun s=>{ s with v:=.one (.ptr d (s.bg+1) 0),box:=some (bW d (s.ag+1) 1 os),bg:=s.bg+1,bU:=none::cj os,ag:=s.ag+1 }) st d
 have hn:∀s,nth bQ s=if s=d then some { s0 with v:=.one (.ptr d (s0.bg+1) 0),box:=some (bW d (s0.ag+1) 1 os),bg:=s0.bg+1,bU:=none::cj os,ag:=s0.ag+1 } else nth st s:=by
  intro s;show nth (sO _ st d) s=_;rw [lf]
  by_cases e:s=d
  ·subst e;rw [if_pos rfl,if_pos rfl,mY];rfl
  ·rw [if_neg e,if_neg e]
 have Nb:gP bQ d=s0.ag+1:=by unfold gP;rw [hn];simp
 have Nc:gP st d=s0.ag:=by unfold gP;rw [mY]
 have Z6:j5 bQ d=s0.bg+1:=by unfold j5;rw [hn];simp
 have aba:j5 st d=s0.bg:=by unfold j5;rw [mY]
 have ht:=Cd d;have lU:Fw c st w c' bQ w:={
  stays:=rz c w _ _ _
  refs:=fun a' j' g' A' hg iB=>by
   obtain ⟨sl,k1,k2,k3⟩:=dK iB;rw [hn] at k1
   by_cases e:a'=d
   ·rw [if_pos e] at k1
    cases k1
    subst e;simp only at k2;omega
   ·rw [if_neg e] at k1;exact ⟨A',BF k1 k2 k3,rfl,rfl,by show (if a'=d then _ else _)=_;rw [if_neg e],fun _=>⟨rfl,fun _ _ _ _=>rfl⟩⟩
  GY:=fun b' g' rZ hg Pj=>by
   obtain ⟨sl,k1,k2,k3⟩:=ka Pj;rw [hn] at k1
   by_cases e:b'=d
   ·rw [if_pos e] at k1
    cases k1
    subst e;simp only at k2;omega
   ·rw [if_neg e] at k1;exact ⟨⟨rZ,by unfold fV;rw [k1];simp [k2,k3]⟩,by show (if b'=d then _ else _)=_;rw [if_neg e]⟩
  gA:=fun a'=>by
   by_cases e:a'=d
   ·subst e;rw [Nb,Nc];omega
   ·unfold gP;rw [hn,if_neg e];exact Nat.le_refl _
  gB:=fun a'=>by
   by_cases e:a'=d
   ·subst e;rw [Z6,aba];omega
   ·unfold j5;rw [hn,if_neg e];exact Nat.le_refl _
  gE:=fun a'=>by
   by_cases e:a'=d
   ·subst e;unfold wu;rw [hn,if_pos rfl,mY];exact Nat.le_refl _
   ·unfold wu;rw [hn,if_neg e];exact Nat.le_refl _ }
 have Nd:∀k A,cO bQ d (1+k) (s0.ag+1)=some A→nth (cj os) k=some (some A):=by
  intro k A hA;obtain ⟨sl,k1,k2,k3⟩:=dK hA;rw [hn,if_pos rfl] at k1
  cases k1
  rw [show 1+k=k+1 by omega] at k3;exact k3
 have xD:∀t,il c' bQ w (dN bQ t) ((a.put (some d) (.pointer (some ⟨rh,0,none⟩))).eval (.tmp t)):=by
  intro t;rw [eval_put]
  by_cases e:t=d
  ·subst e;rw [if_pos ⟨rfl,hd⟩];have:dN bQ t=.one (.ptr t (s0.bg+1) 0):=by unfold dN;rw [hn,if_pos rfl]
   rw [this];refine ⟨rfl,by rw [Z6];exact Nat.le_refl _,fun cs _ => ?_⟩;show _=Value.pointer (some ⟨(if t=t then rh else c.bx t),0,none⟩);rw [if_pos rfl]
  ·rw [if_neg (by rintro ⟨e2,_⟩;exact e (Option.some.inj e2).symm)];have:dN bQ t=dN st t:=by unfold dN;rw [hn,if_neg e]
   rw [this];exact lU.u6 (h.jj t)
 refine ⟨c',⟨xD,fun s sl cs hX hs hb => ?_,fun s j sl A hX hs hA => ?_,fun b l hb => ?_,fun b hb h1=>h.free b hb (by unfold Cz.ok at *;simpa [c',Cz.ia] using h1),h.kept,h.old,by simpa [Act.put] using h.plain,fun p hp=>lU.hZ (h.hZ p hp)⟩,lU,fun b l hl hb => ?_⟩
 case refine_4=>
  show (c.own b).map (yo d)=_;rw [hb];simp [(Cd d).other l (.inr hl)]
 ·rw [hn] at hs
  by_cases e:s=d
  ·subst e;rw [if_pos rfl] at hs
   cases hs
   simp only [Option.some.injEq] at hb;subst hb;refine ⟨?_,us,ty,by show w.heap[if s=s then rh else c.bx s]?=_;rw [if_pos rfl];exact Vv,?_⟩
   ·show (c.own (if s=s then rh else c.bx s)).map (yo s)=some (.box s);rw [if_pos rfl,lq];rfl
   ·exact g2 c' bQ s (s0.ag+1) (fun b hb=>Cz.se.2 hb) (fun k _=>by show (if s=s then _ else _)=_;rw [if_pos rfl]) (fun k A _ hA=>Nd k A hA) (by rw [Nb];exact Nat.le_refl _)
  ·rw [if_neg e] at hs;exact (h.boxes s sl cs hX hs hb).ia ht lU (by show (if s=d then _ else _)=_;rw [if_neg e])
 ·rw [hn] at hs
  by_cases e:s=d
  ·subst e;rw [if_pos rfl] at hs
   cases hs
   cases j with
   |zero=>simp [nth] at hA
   |succ j=>
    obtain ⟨v',w7⟩:=g1 j A hA;rw [show 1+j=j+1 by omega] at w7;exact w7.arr (by simp) (by simp [yo])
  ·rw [if_neg e] at hs;exact (h.bU s j sl A hX hs hA).ia ht (by simp [e])
 ·simp only [c',Cz.ia,Option.map_eq_some_iff] at hb;obtain ⟨k,hk,e⟩:=hb;obtain ⟨h1,h2⟩:=h.owned b k hk;refine ⟨h1,h2.imp (fun e2 => ?_) id⟩;subst e2;rw [←e];rfl
theorem LL {st:St} {d:Nat} {outs:List RV} (h:∀os,outs≠[.ptr os]):Am st (some d) outs=match nth st d with
  |some s=>some (sO (fun sl=>{ sl with v:=(match na d (s.ag+1) 0 outs with | [v]=>v | vs=>.p8 vs),bU:=cj (outs.flatMap RV.Aj),ag:=s.ag+1 }) st d)
  |none=>none:=by
 unfold Am;simp only
 cases nth st d with
 |none=>rfl
 |some s=>
  cases outs with
  |nil=>rfl
  |cons r l=>cases l with
   |cons _ _=>cases r<;>rfl
   |nil=>cases r with
    |one o=>rfl
    |agg os=>rfl
    |ptr os=>exact absurd rfl (h os)
theorem nz.laid {X:Lb→Prop} {w0:World} {mu:Mu} {c:Cz} {st:St} {a:Act} {w:World} (h:nz X w0 mu c st a w) {d:Option Nat} {outs:List RV} {v:Value} (hv:vh c w outs v) {bQ:St} (hl:Am st d outs=some bQ) (hd:∀k,d=some k→k<a.tmps.size) :
  ∃c',nz X w0 mu c' bQ (a.put d v) w∧Fw c st w c' bQ w∧∀b l,l.real=true→c.own b=some l→c'.own b=some l:=by
 cases d with
 |none=>
  cases outs with
  |nil=>
   simp only [Am,Option.some.injEq] at hl;subst hl;exact ⟨c,h,Fw.refl c st w,fun _ _ _ h=>h⟩
  |cons _ _=>simp [Am] at hl
 |some d=>
  by_cases hp:∃os,outs=[.ptr os]
  ·obtain ⟨os,rfl⟩:=hp;unfold Am at hl;simp only at hl
   cases mY:nth st d with
   |none=>simp [mY] at hl
   |some s0=>
    simp only [mY,Option.some.injEq] at hl;subst hl;refine h.YN mY ?_ (hd d rfl);rcases hv with ⟨r,h1,h2⟩ | ⟨h1,_⟩
    ·simp only [List.cons.injEq,and_true] at h1;subst h1;obtain ⟨v',l,e1,h3,_⟩:=h2;simp only [List.cons.injEq] at e1;rw [e1.1];exact h3
    ·exact absurd rfl h1
  rw [LL (fun os e=>hp ⟨os,e⟩)] at hl
  cases mY:nth st d with
  |none=>simp [mY] at hl
  |some s0=>
   simp only [mY,Option.some.injEq] at hl;obtain ⟨vs,hR,hVV⟩:∃vs,oB c w 0 outs vs∧∀(c2:Cz) (lV:St) (g:Nat),(na d g 0 outs).length=vs.length→(∀(k:Nat) (x:V) (u:Value),(na d g 0 outs)[k]?=some x→vs[k]?=some u→C6 c2 lV w x u)→
     il c2 lV w (match na d g 0 outs with | [v]=>v | vs=>.p8 vs) v:=by
    rcases hv with ⟨r,rfl,h2⟩ | ⟨h1,vs,rfl,h2⟩
    ·refine ⟨[v],h2,fun c2 lV g hlen Dt => ?_⟩;exact M7 (Dt 0 _ v rfl rfl)
    ·refine ⟨vs.toList,h2,fun c2 lV g hlen Dt => ?_⟩;have abb:il c2 lV w (.p8 (na d g 0 outs)) (.tuple vs):=⟨vs,rfl,by simpa using hlen,fun i x y hx hy=>Dt i x y hx (by simpa using hy)⟩
     split
     ·rename_i x hx;obtain ⟨_,_,_,b3,_⟩:=oB.vals outs 0 vs.toList h2;have:=b3 d g;rw [hx] at this;exact absurd this.symm h1
     ·exact abb
   obtain ⟨lcs,g1,g2,g3,g4⟩:=oB.vals outs 0 vs hR
   let c':=c.ia (Ds d) c.bx (fun s j=>if s=d then lcs j else c.lc s j)
   let V0:=(match na d (s0.ag+1) 0 outs with | [v]=>v | vs=>.p8 vs)
   have hn:∀s,nth bQ s=if s=d then some { s0 with v:=V0,bU:=cj (outs.flatMap RV.Aj),ag:=s0.ag+1 } else nth st s:=by
    intro s;rw [←hl,lf]
    by_cases e:s=d
    ·subst e;rw [if_pos rfl,if_pos rfl,mY];rfl
    ·rw [if_neg e,if_neg e]
   have Nb:gP bQ d=s0.ag+1:=by unfold gP;rw [hn];simp
   have Nc:gP st d=s0.ag:=by unfold gP;rw [mY]
   have ht:=Cc d;have lU:Fw c st w c' bQ w:={
    stays:=rz c w _ _ _
    refs:=fun a' j' g' A' hg iB=>by
     obtain ⟨sl,k1,k2,k3⟩:=dK iB;rw [hn] at k1
     by_cases e:a'=d
     ·rw [if_pos e] at k1
      cases k1
      subst e;simp only at k2;omega
     ·rw [if_neg e] at k1;exact ⟨A',BF k1 k2 k3,rfl,rfl,by show (if a'=d then _ else _)=_;rw [if_neg e],fun _=>⟨rfl,fun _ _ _ _=>rfl⟩⟩
    GY:=fun b' g' rZ hg Pj=>by
     obtain ⟨sl,k1,k2,k3⟩:=ka Pj;rw [hn] at k1
     by_cases e:b'=d
     ·rw [if_pos e] at k1
      cases k1
      subst e;exact ⟨⟨rZ,by unfold fV;rw [mY];simp at k2 k3;simp [k2,k3]⟩,rfl⟩
     ·rw [if_neg e] at k1;exact ⟨⟨rZ,by unfold fV;rw [k1];simp [k2,k3]⟩,rfl⟩
    gA:=fun a'=>by
     by_cases e:a'=d
     ·subst e;rw [Nb,Nc];omega
     ·unfold gP;rw [hn,if_neg e];exact Nat.le_refl _
    gB:=fun a'=>by
     by_cases e:a'=d
     ·subst e;unfold j5;rw [hn,if_pos rfl,mY];exact Nat.le_refl _
     ·unfold j5;rw [hn,if_neg e];exact Nat.le_refl _
    gE:=fun a'=>by
     by_cases e:a'=d
     ·subst e;unfold wu;rw [hn,if_pos rfl,mY];exact Nat.le_refl _
     ·unfold wu;rw [hn,if_neg e];exact Nat.le_refl _ }
   have Nd:∀k A,cO bQ d k (s0.ag+1)=some A→nth (cj (outs.flatMap RV.Aj)) k=some (some A):=by
    intro k A hA;obtain ⟨sl,k1,k2,k3⟩:=dK hA;rw [hn,if_pos rfl] at k1
    cases k1
    exact k3
   have xD:∀t,il c' bQ w (dN bQ t) ((a.put (some d) v).eval (.tmp t)):=by
    intro t;rw [eval_put]
    by_cases e:t=d
    ·subst e;rw [if_pos ⟨rfl,hd t rfl⟩];have:dN bQ t=V0:=by unfold dN;rw [hn,if_pos rfl]
     rw [this];refine hVV c' bQ (s0.ag+1) (by rw [g3,g2]) (g4 c' bQ t (s0.ag+1) (fun b hb=>Cz.se.2 hb) (fun k _ => ?_) (fun k A _ hA=>Nd k A (by simpa using hA)) (by rw [Nb];exact Nat.le_refl _));show (if t=t then _ else _)=_;rw [if_pos rfl]
    ·rw [if_neg (by rintro ⟨e2,_⟩;exact e (Option.some.inj e2).symm)];have:dN bQ t=dN st t:=by unfold dN;rw [hn,if_neg e]
     rw [this];exact lU.u6 (h.jj t)
   refine ⟨c',⟨xD,fun s sl cs hX hs hb => ?_,fun s j sl A hX hs hA => ?_,fun b l hb => ?_,fun b hb h1=>h.free b hb (by unfold Cz.ok at *;simpa [c',Cz.ia] using h1),h.kept,h.old,by simpa [Act.put] using h.plain,fun p hp=>lU.hZ (h.hZ p hp)⟩,lU,fun b l hl hb => ?_⟩
   case refine_4=>
    show (c.own b).map (Ds d)=_;rw [hb];simp [(Cc d).other l (.inr hl)]
   ·rw [hn] at hs
    by_cases e:s=d
    ·subst e;rw [if_pos rfl] at hs
     cases hs
     exact (h.boxes s s0 cs hX mY hb).ia ht lU rfl
    ·rw [if_neg e] at hs;exact (h.boxes s sl cs hX hs hb).ia ht lU rfl
   ·rw [hn] at hs
    by_cases e:s=d
    ·subst e;rw [if_pos rfl] at hs
     cases hs
     obtain ⟨v',w7⟩:=g1 j A hA;exact w7.arr (by simp) (by simp [Ds])
    ·rw [if_neg e] at hs;exact (h.bU s j sl A hX hs hA).ia ht (by simp [e])
   ·simp only [c',Cz.ia,Option.map_eq_some_iff] at hb;obtain ⟨k,hk,e⟩:=hb;obtain ⟨h1,h2⟩:=h.owned b k hk;refine ⟨h1,h2.imp (fun e2 => ?_) id⟩;subst e2;rw [←e];rfl
end Go.TM
namespace Go.TM
open Go Go.RowKit
theorem JX {st:St} {own:Bool}:(cs:List CV)→{os:List OV}→{u:List (Option Lb)}→{r:List (Nat×Nat)}→jw st own cs=some (os,u,r)→∀l∈dO u,l∈cs.filterMap fun x=>match x with | .ref a j _ _=>some (Lb.sp a j) | _=>none
 | [],_,_,_,h=>by
  simp only [jw,Option.some.injEq,Prod.mk.injEq] at h;obtain ⟨_,rfl,_⟩:=h;simp [dO]
 |x::cs,os,u,r,h=>by
  unfold jw at h
  cases hc:lj st own x with
  |none=>simp [hc] at h
  |some p=>
   obtain ⟨o,u1,r1⟩:=p
   cases hq:jw st own cs with
   |none=>simp [hc,hq] at h
   |some q=>
    obtain ⟨EA,us,rs⟩:=q;simp only [hc,hq,Option.some.injEq,Prod.mk.injEq] at h;obtain ⟨_,rfl,_⟩:=h;intro l hl;rw [lr] at hl;rcases List.mem_cons.1 hl with hl | hl
    ·refine List.mem_filterMap.2 ⟨x,List.mem_cons_self,?_⟩
     cases x with
     |ref a j g w=>
      unfold lj at hc;simp only at hc
      cases hA:cO st a j g with
      |none=>simp [hA] at hc
      |some A=>
       simp only [hA] at hc
       cases hm:A.md.Sa with
       |true=>simp [hm] at hc
       |false=>
       simp only [hm,cond_false] at hc
       cases hb:(own&&A.own&&(A.md.is .sh||w.isFull))<;>simp only [hb,cond_true,cond_false,Option.some.injEq,Prod.mk.injEq] at hc<;>obtain ⟨_,rfl,_⟩:=hc
       ·cases hl
       ·exact hl.symm
     |nV q y off=>obtain ⟨_,rfl,_⟩:=Dm hc;cases hl
     |xy q y off=>obtain ⟨_,rfl,_⟩:=BC hc;cases hl
     |_=>
      simp only [lj,Option.some.injEq,Prod.mk.injEq,reduceCtorEq] at hc
      all_goals (obtain ⟨_,rfl,_⟩:=hc;cases hl)
    ·have:=JX cs hq l (lr.2 hl);obtain ⟨y,h1,h2⟩:=List.mem_filterMap.1 this;exact List.mem_filterMap.2 ⟨y,List.mem_cons_of_mem _ h1,h2⟩
theorem Pw {st:St} {m:Pm} {v:V} {av:AV} {u q:List Lb} {r:List (Nat×Nat)} (h:jH st m v=some (av,u,q,r)):∀l∈u,(l∈q∧∃s j,l=.sp s j)∨l∈EI m v:=by
 have single:∀own cs,(match jw st own cs with | some (os,u,r)=>some (AV.val false os,dO u,dO u,r) | none=>none)=some (av,u,q,r)→∀l∈u,(l∈q∧∃s j,l=.sp s j)∨l∈EI m v:=by
  intro own cs h
  cases hq:jw st own cs with
  |none=>simp [hq] at h
  |some p=>
   obtain ⟨os,us,rs⟩:=p;simp only [hq,Option.some.injEq,Prod.mk.injEq] at h;obtain ⟨_,rfl,rfl,_⟩:=h;exact fun l hl=>.inl ⟨hl,BE cs hq l hl⟩
 cases v with
 |p8 _=>simp [jH] at h
 |agg cs=>
  have other:(match jw st m.re cs with | some (os,u,r)=>some (AV.val true os,dO u,dO u,r) | none=>none)=some (av,u,q,r)→∀l∈u,(l∈q∧∃s j,l=.sp s j)∨l∈EI m (.agg cs):=by
   intro h
   cases hq:jw st m.re cs with
   |none=>simp [hq] at h
   |some p=>
    obtain ⟨os,us,rs⟩:=p;simp only [hq,Option.some.injEq,Prod.mk.injEq] at h;obtain ⟨_,rfl,rfl,_⟩:=h;exact fun l hl=>.inl ⟨hl,BE cs hq l hl⟩
  unfold jH at h
  cases m with
  |shr=>exact other h
  |own=>exact other h
  |pick _=>exact other h
  |io=>exact other h
  |dZ=>
   simp only at h
   cases hq:jw st true cs with
   |none=>simp [hq] at h
   |some p=>
    obtain ⟨os,us,rs⟩:=p;simp only [hq] at h;obtain ⟨_,h1⟩:=bJ h;simp only [Option.some.injEq,Prod.mk.injEq] at h1;obtain ⟨_,rfl,_,_⟩:=h1;exact fun l hl=>.inr (JX cs hq l hl)
 |one cx=>
  cases cx with
  |ptr b g off=>
   unfold jH at h;simp only at h
   cases hb:fV st b g with
   |none=>simp [hb] at h
   |some cs=>
    simp only [hb] at h
    cases hq:jw st true cs with
    |none=>simp [hq] at h
    |some p=>
     obtain ⟨os,us,rs⟩:=p;simp only [hq] at h;obtain ⟨_,h1⟩:=bJ h;simp only [Option.some.injEq,Prod.mk.injEq] at h1;obtain ⟨_,rfl,rfl,_⟩:=h1;intro l hl;rcases List.mem_cons.1 hl with rfl | hl
     ·exact .inr (by simp [EI])
     ·exact .inl ⟨hl,BE cs hq l hl⟩
  |ref s j g vw=>
   unfold jH at h
   cases m with
   |shr=>exact single _ _ h
   |own=>exact single _ _ h
   |pick _=>exact single _ _ h
   |dZ=>exact single _ _ h
   |io=>
    cases vw with
    |full=>
     cases hA:cO st s j g with
     |none=>simp [hA] at h
     |some A=>
      simp only [hA] at h;obtain ⟨_,h1⟩:=bJ h;simp only [Option.some.injEq,Prod.mk.injEq] at h1;obtain ⟨_,rfl,_,_⟩:=h1;exact fun l hl=>.inr (by simpa [EI] using hl)
    |«from» _=>simp at h
    |sub _ _=>simp at h
  |_=>
   unfold jH at h;simp only at h
   split at h
   ·rename_i os us rs hq;simp only [Option.some.injEq,Prod.mk.injEq] at h;obtain ⟨_,rfl,rfl,_⟩:=h;exact fun l hl=>.inl ⟨hl,BE _ hq l hl⟩
   ·cases h
theorem Hl {st:St}:(ms:List (Pm×V))→{ga:List AV}→{u q:List Lb}→{r:List (Nat×Nat)}→oL st ms=some (ga,u,q,r)→∀l∈u,(l∈q∧∃s j,l=.sp s j)∨∃m∈ms,l∈EI m.1 m.2
 | [],_,_,_,_,h=>by
  simp only [oL,Option.some.injEq,Prod.mk.injEq] at h;obtain ⟨_,rfl,_⟩:=h;simp
 |(m,v)::ms,ga,u,q,r,h=>by
  unfold oL at h
  cases h1:jH st m v with
  |none=>simp [h1] at h
  |some p1=>
   obtain ⟨av,u1,q1,r1⟩:=p1
   cases h2:oL st ms with
   |none=>simp [h1,h2] at h
   |some p2=>
    obtain ⟨aa7,u2,q2,r2⟩:=p2;simp only [h1,h2,Option.some.injEq,Prod.mk.injEq] at h;obtain ⟨rfl,rfl,rfl,rfl⟩:=h;intro l hl;rcases List.mem_append.1 hl with hl | hl
    ·rcases Pw h1 l hl with ⟨h3,h4⟩ | h3
     ·exact .inl ⟨List.mem_append_left _ h3,h4⟩
     ·exact .inr ⟨(m,v),List.mem_cons_self,h3⟩
    ·rcases Hl ms h2 l hl with ⟨h3,h4⟩ | ⟨m',h3,h4⟩
     ·exact .inl ⟨List.mem_append_right _ h3,h4⟩
     ·exact .inr ⟨m',List.mem_cons_of_mem _ h3,h4⟩
theorem FR {st:St}:(ms:List (Pm×V))→{ga:List AV}→{u q:List Lb}→{r:List (Nat×Nat)}→oL st ms=some (ga,u,q,r)→∀(k:Nat) (m:Pm×V) (av:AV),ms[k]?=some m→ga[k]?=some av→Vt st m av
 | [],_,_,_,_,_=>by intro k m av hm;simp at hm
 |(m,v)::ms,ga,u,q,r,h=>by
  unfold oL at h
  cases h1:jH st m v with
  |none=>simp [h1] at h
  |some p1=>
   obtain ⟨av,u1,q1,r1⟩:=p1
   cases h2:oL st ms with
   |none=>simp [h1,h2] at h
   |some p2=>
    obtain ⟨aa7,u2,q2,r2⟩:=p2;simp only [h1,h2,Option.some.injEq,Prod.mk.injEq] at h;obtain ⟨rfl,rfl,rfl,rfl⟩:=h;intro k m' Rn hm Nk
    cases k with
    |zero=>simp at hm Nk;subst hm Nk;exact ⟨u1,q1,r1,h1⟩
    |succ k=>exact FR ms h2 k m' Rn (by simpa using hm) (by simpa using Nk)
theorem SE (a b c:Pm) (l:List V):(C4 a b c l).map (·.2)=l:=by
 rcases l with _ | ⟨x,_ | ⟨y,_ | ⟨z,l⟩⟩⟩<;>simp [C4,Function.comp_def]
theorem Cz.Cn:(m:List (Nat×Nat))→(c:Cz)→{b:Nat}→{l:Lb}→c.own b=some l→(∀p∈m,l≠.sp p.1 p.2)→(c.drop m).own b=some l
 | [],_,_,_,h,_=>h
 |(s,j)::m,c,b,l,h,hm=>Cz.Cn m (c.drop1 s j) (Cz.u9 h (hm (s,j) List.mem_cons_self)) (fun p hp=>hm p (List.mem_cons_of_mem _ hp))
def oM (P:Program) (S:mW):Prop:=
 ∀f a b c Gs,S f=some (a,b,c,Gs)→FnOk P f Gs∧∃fn,P.funcs[f]?=some fn∧(fn.name == "runtime.NumGoroutine")=false∧fn.body.isNone=false
theorem Vw {P:Program} {w0:World} {mu:Mu} {c:Cz} {st bQ:St} {a:Act} {w:World} (h:Rel w0 mu c st a w) {o:Oper} {f:FuncId} {vals:Array Value} (ve:(execOp a.eval o).run P w=.ok (.enter f vals) w)
  {Gs:Al} (UL:FnOk P f Gs) {ms:List (Pm×V)}
  (hlen:ms.length=vals.toList.length) (Dt:∀(k:Nat) (m:Pm×V) (x:Value),ms[k]?=some m→vals.toList[k]?=some x→il c st w m.2 x)
  {fin:St→N} (hv:(UY st o.dst Gs ms fin).val=some bQ) (hd:∀k,o.dst=some k→k<a.tmps.size) {kp:Bool} (YK:kp=true→Pg st ms=true)
  (YO:∀(c5:Cz) (lV:St) (a2:Act) (w':World),Rel w0 mu c5 lV a2 w'→Fw c st w c5 lV w'→
   (∀ga u q r,oL st ms=some (ga,u,q,r)→∀b l,l.real=true→l∉u→(∀p∈r,l≠.sp p.1 p.2)→c.own b=some l→w'.heap[b]?=w.heap[b]?∧c5.own b=some l)→
   (fin lV).val=some bQ→∃c6,Rel w0 mu c6 bQ a2 w'):Ca P w0 mu bQ o a w kp:=by
  unfold UY at hv;unfold Pg at YK
  cases he:oL st ms with
  |none=>simp [he,N.val] at hv
  |some p=>
   obtain ⟨ga,u,q,r⟩:=p;simp only [he] at hv YK;obtain ⟨hc,hv⟩:=j9 hv;rw [Bool.and_eq_true] at hc
   cases hs:Gs ga with
   |none=>simp [hs,N.val] at hv
   |some p=>
    simp only [hs] at hv
    cases hox:p.o with
    |none=>rw [hox] at hv;cases hv
    |some x=>
    rw [hox] at hv;have O8:=hv;clear hv;unfold N.val at O8;simp only at O8;generalize LF:p.res x=res at O8
    cases hbk:yf (sa (tQ u 0 (bif res.plain then st else freeze st r)) q) ms res.exts with
    |none=>simp [hbk,N.val] at O8
    |some G3=>
     simp only [hbk] at O8
     cases hly:Am G3 o.dst res.outs with
     |none=>simp [hly,N.val] at O8
     |some lV=>
      simp only [hly] at O8;have O8:(fin lV).val=some bQ:=O8;obtain ⟨FT,hqu,tb,Vx,ahM,SF,hold⟩:=JT h ms 0 _ hlen Dt he;have Z7:=sd u FT hc.1;have hap:∀p∈r,Lb.sp p.1 p.2∉u:=by
       intro p hp hm;have h1:=List.all_eq_true.1 hc.2 p hp;have h2:=List.all_eq_true.1 h1 _ hm;rw [(Lb.Dn rfl).2 rfl] at h2
       cases h2
      let lc:Nat→Nat→Loc:=fun k=>match ms[k]? with | some m=>FO c m.2 | none=>fun _=>.nil
      have Ax:=Classical.propDecidable
      let ρ:Lb→Option Lb:=fun l=>match look tb l with | some y=>some y | none=>if (∃p∈r,l=.sp p.1 p.2) then none else some .out
      have Du:∀ {l y},look tb l=some y→l∈u∧y.nw=true:=by
       intro l y hl;have:=BD tb hl;exact ⟨by rw [←Vx];exact List.mem_map.2 ⟨_,this,rfl⟩,ahM _ this⟩
      have hρr:∀p∈r,ρ (.sp p.1 p.2)=none:=by
       intro p hp;show (match look tb (.sp p.1 p.2) with | some y=>some y | none=>if (∃p'∈r,Lb.sp p.1 p.2=.sp p'.1 p'.2) then none else some .out)=none
       cases hl:look tb (.sp p.1 p.2) with
       |some y=>exact absurd (Du hl).1 (hap p hp)
       |none=>simp only;rw [if_pos ⟨p,hp,rfl⟩]
      have hρt:∀p∈tb,ρ p.1=some p.2:=by
       intro p hp;have:=Dp tb (by rw [Vx];exact Z7) hp;show (match look tb p.1 with | some y=>some y | none=>_)=_;rw [this]
      have hρh:∀ {l y},ρ l=some y→y=.out∨(y.nw=true∧l∈u):=by
       intro l y hl;have hl:(match look tb l with | some y=>some y | none=>if (∃p∈r,l=.sp p.1 p.2) then none else some .out)=some y:=hl
       cases hk:look tb l with
       |some z=>
        rw [hk] at hl
        cases hl
        exact .inr ⟨(Du hk).2,(Du hk).1⟩
       |none=>
        rw [hk] at hl;simp only at hl
        split at hl
        ·cases hl
        ·cases hl;exact .inl rfl
      have hρn:∀ {l},ρ l=none→∃p∈r,l=.sp p.1 p.2:=by
       intro l hl;have hl:(match look tb l with | some y=>some y | none=>if (∃p∈r,l=.sp p.1 p.2) then none else some .out)=none:=hl
       cases hk:look tb l with
       |some z=>rw [hk] at hl;cases hl
       |none=>
        rw [hk] at hl;simp only at hl
        split at hl
        ·assumption
        ·cases hl
      let μ:Mu:={ m:=fun b=>∃l,(c.map ρ).own b=some l∧l.nw=true,ok:=fun b=>(c.map ρ).own b=none,an:=[] }
      have hH:Handed (c.map ρ) w μ:={
       m:=fun b=>Iff.rfl
       ok:=fun b=>Iff.rfl
       lt:=fun b l hb=>by
        obtain ⟨k,hk,_⟩:=Cz.map_some hb;exact (h.owned b k hk).1
       lb:=fun b l hb=>by
        obtain ⟨k,hk,e⟩:=Cz.map_some hb;exact (hρh e).imp id (·.1) }
      have hA:=hold ρ lc (fun k m hm=>by simp only [Nat.zero_add,lc,hm]) hρt hρr;have oY:=UL (c.map ρ) w μ lc ga vals p x hH hA hs hox;rw [LF] at oY;intro Q;unfold Oper.wp;rw [ve,Oper.upon_enter];refine oY.mono fun e w' Hm => ?_
      obtain ⟨v,rfl,c1,EJ,hV,hX⟩:=Hm;obtain ⟨c2,s2,UI,hR2,hF2,hm2,amI,amJ⟩:∃(c2:Cz) (s2:St),(bif res.plain then st else freeze st r)=s2∧Rel w0 mu c2 s2 a w∧Fw c st w c2 s2 w∧(∀b,μ.m b→∃l,c2.own b=some l∧l∈u)∧(res.plain=true∨∀b,μ.ok b→c2.own b=none)∧
        (∀b l,(∀p∈r,l≠.sp p.1 p.2)→c.own b=some l→c2.own b=some l):=by
       have hm:∀b,μ.m b→∃l,c.own b=some l∧l∈u:=by
        rintro b ⟨l,hl,hh⟩
        obtain ⟨k,hk,e⟩:=Cz.map_some hl;rcases hρh e with e2 | e2
        ·subst e2;cases hh
        ·exact ⟨k,hk,e2.2⟩
       cases hp:res.plain with
       |true=>exact ⟨c,st,rfl,h,Fw.refl c st w,hm,.inl rfl,fun _ _ _ h=>h⟩
       |false=>
        refine ⟨c.drop r,freeze st r,rfl,Rel.freeze r h,Fw.freeze w r c st,fun b hb => ?_,.inr fun b hb => ?_,fun b l hl hb=>Cz.Cn r c hb hl⟩
        ·obtain ⟨l,h1,h2⟩:=hm b hb;exact ⟨l,Cz.Cn r c h1 (fun p hp e=>hap p hp (e▸h2)),h2⟩
        ·have hb:(c.own b).bind ρ=none:=hb
         cases hk:c.own b with
         |none=>exact Cz.C9 r c b hk
         |some l=>
          rw [hk] at hb;obtain ⟨p,hp,e⟩:=hρn hb;subst e;exact Cz.GL r c b hk hp
      rw [UI] at hbk;obtain ⟨g1,g2,gfr,g3,g4⟩:=hR2.ahH EJ (X:=fun l=>l∈u) hm2 (fun l hl e=>by subst e;cases FT _ hl) (u:=u) (fun a j h=>SA h);have Px:(∀b,c1.ok b→(c2.merge c1 w.heap.size μ.m).ok b)∨res.plain=true:=by
       rcases amI with h1 | h1
       ·exact .inr h1
       ·exact .inl (g4 h1)
      have Vy:res.plain=true→res.outs.all (fun o=>o.Aj.all OV.plain)=true∧res.exts.all XV.plain=true:=by
       intro hp;unfold Res.plain at hp
       rwa [Bool.and_eq_true] at hp
      have hV':vh (c2.merge c1 w.heap.size μ.m) w' res.outs v:=hV.pass (fun b j=>g3 b (.kO j) rfl) (Px.imp id fun hp=>(Vy hp).1);have Sz:kC (c2.merge c1 w.heap.size μ.m) w' lc 0 ga vals.toList res.exts:=kC.pass ga 0 (fun b k _=>g3 b (.xz k) rfl) (fun b k j _=>g3 b (.dE k j) rfl) _ _ (Px.imp id fun hp=>(Vy hp).2) hX;obtain ⟨c3,k1,k2,k3⟩:=Cm q g1;have ahN:∀b,(c2.merge c1 w.heap.size μ.m).ok b→c3.ok b:=fun b hb=>by unfold Cz.ok at *;rw [k3];exact hb
      have hV3:vh c3 w' res.outs v:=hV'.pass (fun b j hb=>by rw [k3];exact hb) (.inl ahN);have hX3:kC c3 w' lc 0 ga vals.toList res.exts:=kC.pass ga 0 (fun b k _ hb=>by rw [k3];exact hb) (fun b k j _ hb=>by rw [k3];exact hb) _ _ (.inl ahN) Sz;obtain ⟨c4,l1,l2,l3⟩:=Hk ms 0 ga _ _ k1 ((hF2.trans g2).trans k2) Dt (FR ms he) SF.symm hlen (fun k m hm=>by simp only [Nat.zero_add,lc,hm]) hX3 hbk;have hV4:vh c4 w' res.outs v:=hV3.pass (fun b j=>l3.dE b (.kO j) (.inl ⟨j,rfl⟩)) (.inl l3.ok);obtain ⟨c5,n1,n2,n3⟩:=l1.laid hV4 hly hd;have ahO:Rel w0 mu c5 lV (a.put o.dst v) w':=by
       refine (n1.mono (X':=fun _=>False) (fun l hl => ?_)).rel;obtain ⟨⟨Vz,hl2⟩,hl3⟩:=hl;rcases Hl ms he l Vz with ⟨h1,s,j,e⟩ | ⟨m,h1,h2⟩
       ·subst e;exact hl2 s j h1 rfl
       ·exact hl3 m h1 h2
      obtain ⟨c6,hc6⟩:=YO c5 lV _ w' ahO (l2.trans n2) (fun aa7 u' q' r' he' b l Vz hl2 hl3 hb=>by
       rw [he] at he';simp only [Option.some.injEq,Prod.mk.injEq] at he';obtain ⟨rfl,rfl,rfl,rfl⟩:=he';have MP:=amJ b l hl3 hb;obtain ⟨f1,f2⟩:=gfr b l MP hl2;refine ⟨f1,n3 b l Vz (l3.dE b l (.inr Vz) ?_)⟩;rw [k3,f2];exact MP) O8
      refine ⟨⟨c6,hc6,vf _ _ _⟩,fun amL=>⟨EJ.kept.2.2.2,fun k hk=>EJ.old k hk (fun hmu => ?_)⟩⟩;have hu0:u=[]:=by simpa using YK amL
      obtain ⟨_,_,Hn⟩:=hm2 k hmu;rw [hu0] at Hn
      cases Hn
end Go.TM
namespace Go.TM
open Go Go.RowKit
end Go.TM
namespace Go.TM
open Go Go.RowKit
end Go.TM
namespace Go.TM
open Go Go.RowKit
theorem Rel.clear {w0:World} {mu:Mu} {c:Cz} {st:St} {a:Act} {w:World} (h:Rel w0 mu c st a w) (P:Nat):Rel w0 mu c (sO (fun s=>{ s with bU:=[],ep:=s.ep+1 }) st P) a w∧Fw c st w c (sO (fun s=>{ s with bU:=[],ep:=s.ep+1 }) st P) w:=by
 have hn:∀s,nth (sO (fun s=>{ s with bU:=[],ep:=s.ep+1 }) st P) s=if s=P then (nth st s).map (fun z=>{ z with bU:=[],ep:=z.ep+1 }) else nth st s:=fun s=>lf _ _ _ _
 generalize sO (fun s=>{ s with bU:=[],ep:=s.ep+1 }) st P=bQ at hn ⊢;have lU:Fw c st w c bQ w:={
  stays:=lk.refl w _
  refs:=fun a' j' g' A' _ iB=>by
   obtain ⟨sl,k1,k2,k3⟩:=dK iB;rw [hn] at k1
   by_cases e:a'=P
   ·rw [if_pos e] at k1;obtain ⟨z,hz,rfl⟩:=Option.map_eq_some_iff.1 k1;simp [nth] at k3
   ·rw [if_neg e] at k1;exact ⟨A',BF k1 k2 k3,rfl,rfl,rfl,fun _=>⟨rfl,fun _ _ _ _=>rfl⟩⟩
  GY:=fun b' g' rZ _ tX=>by
   refine ⟨⟨rZ,?_⟩,rfl⟩;unfold fV at tX ⊢;rw [hn] at tX
   by_cases e:b'=P
   ·rw [if_pos e] at tX
    cases hz:nth st b' with
    |none=>rw [hz] at tX;cases tX
    |some z=>rw [hz] at tX;exact tX
   ·rw [if_neg e] at tX;exact tX
  gA:=fun s=>by
   unfold gP;rw [hn]
   by_cases e:s=P
   ·rw [if_pos e];cases nth st s<;>simp
   ·rw [if_neg e];exact Nat.le_refl _
  gB:=fun s=>by
   unfold j5;rw [hn]
   by_cases e:s=P
   ·rw [if_pos e];cases nth st s<;>simp
   ·rw [if_neg e];exact Nat.le_refl _
  gE:=fun s=>by
   unfold wu;rw [hn]
   by_cases e:s=P
   ·rw [if_pos e];cases nth st s<;>simp
   ·rw [if_neg e];exact Nat.le_refl _ }
 refine ⟨{
  jj:=fun t=>by
   have:dN bQ t=dN st t:=by
    unfold dN;rw [hn]
    by_cases e:t=P
    ·rw [if_pos e];cases nth st t<;>rfl
    ·rw [if_neg e]
   rw [this];exact lU.u6 (h.jj t)
  boxes:=fun s sl cs hs hb=>by
   rw [hn] at hs
   by_cases e:s=P
   ·rw [if_pos e] at hs;obtain ⟨z,hz,rfl⟩:=Option.map_eq_some_iff.1 hs;exact (h.boxes s z cs hz hb).go lU rfl rfl rfl
   ·rw [if_neg e] at hs;exact (h.boxes s sl cs hs hb).go lU rfl rfl rfl
  bU:=fun s j sl A hs hA=>by
   rw [hn] at hs
   by_cases e:s=P
   ·rw [if_pos e] at hs;obtain ⟨z,hz,rfl⟩:=Option.map_eq_some_iff.1 hs;simp [nth] at hA
   ·rw [if_neg e] at hs;exact h.bU s j sl A hs hA
  owned:=h.owned
  free:=h.free
  kept:=h.kept
  old:=h.old
  plain:=h.plain
  hZ:=fun p hp=>lU.hZ (h.hZ p hp) },lU⟩
theorem Ro {α β:Type} (f:α→β):(l:List α)→(n:Nat)→nth (l.map f) n=(nth l n).map f
 | [],_=>rfl
 |_::_,0=>rfl
 |_::l,n+1=>Ro f l n
theorem sB (st:St) (s:Nat):nth (yg st) s=(nth st s).map (Z0 st):=Ro _ _ _
theorem JY (st:St) (a j g:Nat):cO (yg st) a j g=cO st a j g:=by
 unfold cO;rw [sB]
 cases nth st a<;>rfl
theorem JZ (st:St) (a:Nat):gP (yg st) a=gP st a:=by
 unfold gP;rw [sB]
 cases nth st a<;>rfl
theorem J0 (st:St) (a:Nat):j5 (yg st) a=j5 st a:=by
 unfold j5;rw [sB]
 cases nth st a<;>rfl
theorem VA (st:St) (a:Nat):wu (yg st) a=wu st a:=by
 unfold wu;rw [sB]
 cases nth st a<;>rfl
theorem J1 (st:St) (b g:Nat):fV (yg st) b g=(fV st b g).map fun cs=>cs.map (FH st):=by
 unfold fV;rw [sB]
 cases nth st b with
 |none=>rfl
 |some x=>
  show (bif Nat.beq x.bg g then x.box.map _ else none)=_;simp only
  cases Nat.beq x.bg g<;>rfl
theorem Fw.yg (c:Cz) (st:St) (w:World):Fw c st w c (yg st) w where
 stays:=lk.refl w _
 refs a j g A' _ iB:=by
  rw [JY] at iB;exact ⟨A',iB,rfl,rfl,rfl,fun _=>⟨rfl,fun _ _ _ _=>rfl⟩⟩
 GY b g rZ _ h:=by
  rw [J1] at h;obtain ⟨cs,h1,_⟩:=Option.map_eq_some_iff.1 h;exact ⟨⟨cs,h1⟩,rfl⟩
 gA a:=by rw [JZ];exact Nat.le_refl _
 gB a:=by rw [J0];exact Nat.le_refl _
 gE a:=by rw [VA];exact Nat.le_refl _
theorem Nl {w0:World} {mu:Mu} {c:Cz} {st:St} {a:Act} {w:World} (h:Rel w0 mu c st a w) {x:CV} {v:Value} (hr:qd c st w x v):qd c st w (FH st x) v:=by
 unfold FH
 split
 ·split
  ·rename_i A hA
   cases ho:A.own with
   |true=>exact hr
   |false=>
    cases hm:A.md.is .sh with
    |false=>exact hr
    |true=>
     have hm:=Md.ya.1 hm;exact C7 (h.JI hA) (hr.2.2 A hA) (ok:=c.ok) (fun b h=>h) (fun b q=>by
      rcases q with q | q
      ·rw [ho] at q;cases q
      ·rw [hm] at q;cases q) (by rw [hm];rfl)
  ·exact hr
 ·exact hr
theorem Nn {w0:World} {mu:Mu} {c:Cz} {st:St} {a:Act} {w:World} (h:Rel w0 mu c st a w) {cs:List CV} {vs:List Value} (hr:iQ c st w cs vs):iQ c (yg st) w (cs.map (FH st)) vs:=by
 refine ⟨by rw [List.length_map];exact hr.1,fun i x v h1 h2 => ?_⟩;rw [List.getElem?_map] at h1;obtain ⟨y,hy,rfl⟩:=Option.map_eq_some_iff.1 h1;exact (Fw.yg c st w).Yy (Nl h (hr.2 i y v hy h2))
theorem VB {w0:World} {mu:Mu} {c:Cz} {st:St} {a:Act} {w:World} (h:Rel w0 mu c st a w) {x:V} {v:Value} (hr:il c st w x v):il c (yg st) w (UZ st x) v:=by
 cases x with
 |one x=>exact (Fw.yg c st w).Yy (Nl h hr)
 |agg cs=>
  obtain ⟨vs,h1,h2⟩:=hr;exact ⟨vs,h1,Nn h h2⟩
 |p8 us=>exact (Fw.yg c st w).u6 hr
theorem Rel.yg {w0:World} {mu:Mu} {c:Cz} {st:St} {a:Act} {w:World} (h:Rel w0 mu c st a w):Rel w0 mu c (yg st) a w where
 jj t:=by
  have e:dN (Go.TM.yg st) t=UZ st (dN st t):=by
   unfold dN;rw [sB]
   cases nth st t<;>rfl
  rw [e];exact VB h (h.jj t)
 boxes s sl cs hs hb:=by
  rw [sB] at hs;obtain ⟨x,hx,rfl⟩:=Option.map_eq_some_iff.1 hs;have hb:x.box.map (fun cs=>cs.map (FH st))=some cs:=hb;obtain ⟨UH,hc,rfl⟩:=Option.map_eq_some_iff.1 hb;obtain ⟨k1,vs,ty,k2,k3⟩:=h.boxes s x UH hx hc;exact ⟨k1,vs,ty,k2,Nn h k3⟩
 bU s j sl A hs hb:=by
  rw [sB] at hs;obtain ⟨x,hx,rfl⟩:=Option.map_eq_some_iff.1 hs;exact h.bU s j x A hx hb
 owned:=h.owned
 free:=h.free
 kept:=h.kept
 old:=h.old
 plain:=h.plain
 hZ p hp:=by
  have h0:=h.hZ p hp
  cases p with
  |arr a j g W n l=>
   refine ⟨by rw [JZ];exact h0.1,fun A hA => ?_⟩;rw [JY] at hA;exact h0.2 A hA
  |box b g rh=>
   refine ⟨by rw [J0];exact h0.1,fun cs Aq => ?_⟩;rw [J1] at Aq;obtain ⟨UH,hc,_⟩:=Option.map_eq_some_iff.1 Aq;exact h0.2 UH hc
theorem No {w0:World} {mu:Mu} {c:Cz} {st:St} {a:Act} {w:World} (ms:List (Pm×V)) (h:Rel w0 mu c st a w):Rel w0 mu c (GX ms st) a w∧∀x v,il c st w x v→il c (GX ms st) w x v:=by
 unfold GX
 cases ms.any (fun m=>m.1.U0)
 ·exact ⟨h,fun _ _ hr=>hr⟩
 ·exact ⟨h.yg,fun _ _ hr=>(Fw.yg c st w).u6 hr⟩
theorem Np {P:Program} {S:mW} (hS:oM P S) {w0:World} {mu:Mu} {c:Cz} {st bQ:St} {a:Act} {w:World} (h:Rel w0 mu c st a w) {o:Oper} {f:FuncId} {vals:Array Value} {xs:List V}
  (ve:∀fn,P.funcs[f]?=some fn→fn.name ≠ "runtime.NumGoroutine" → fn.body≠none→(execOp a.eval o).run P w=.ok (.enter f vals) w)
  (Z1:xs.length=vals.toList.length) (ahP:∀(k:Nat) (m:V) (x:Value),xs[k]?=some m→vals.toList[k]?=some x→il c st w m x)
  (hv:(JG S st o.dst f xs).val=some bQ) (hd:∀k,o.dst=some k→k<a.tmps.size):Ca P w0 mu bQ o a w (uM S st f xs):=by
 unfold uM;unfold JG at hv
 cases hf:S f with
 |none=>simp [hf,N.val] at hv
 |some p=>
  obtain ⟨m1,m2,m3,Gs⟩:=p;simp only [hf] at hv ⊢;obtain ⟨UL,fn,VC,amM,ahQ⟩:=hS f m1 m2 m3 Gs hf;have ve:=ve fn VC (by simpa using amM) (by intro e;rw [e] at ahQ;cases ahQ);have abc:=SE m1 m2 m3 xs;generalize C4 m1 m2 m3 xs=ms at hv abc ⊢;have hlen:ms.length=vals.toList.length:=by
   have:=congrArg List.length abc;rw [List.length_map] at this;omega
  have Dt:∀(k:Nat) (m:Pm×V) (x:Value),ms[k]?=some m→vals.toList[k]?=some x→il c st w m.2 x:=by
   intro k m x hm hx;have h1:(ms.map (·.2))[k]?=some m.2:=by rw [List.getElem?_map,hm];rfl
   rw [abc] at h1;exact ahP k m.2 x h1 hx
  have hR:=h.freeze (I6 st ms);have J2:∀(k:Nat) (m:Pm×V) (x:Value),ms[k]?=some m→vals.toList[k]?=some x→il (c.drop (I6 st ms)) (freeze st (I6 st ms)) w m.2 x:=fun k m x h1 h2=>(Fw.freeze w _ c st).u6 (Dt k m x h1 h2)
  generalize freeze st (I6 st ms)=ahR at hv hR J2 ⊢;generalize c.drop (I6 st ms)=c0 at hR J2;have J2:∀(k:Nat) (m:Pm×V) (x:Value),ms[k]?=some m→vals.toList[k]?=some x→il c0 (GX ms ahR) w m.2 x:=fun k m x h1 h2=>(No ms hR).2 _ _ (J2 k m x h1 h2)
  have hR:=(No ms hR).1;generalize GX ms ahR=EB at hv hR J2 ⊢;unfold ZZ at hv;exact Vw hR ve UL hlen J2 hv hd (fun h=>h) (fun c5 lV a2 w' hr _ _ YO=>by
   simp only [N.val,Option.some.injEq] at YO;subst YO;exact ⟨c5,hr⟩)
theorem VD {P:Program} {S:mW} (hS:oM P S) {w0:World} {mu:Mu} {c:Cz} {st bQ:St} {a:Act} {w:World} (h:Rel w0 mu c st a w) {o:Oper} {f:FuncId} {args:Array Operand} {Yg:Array TypeId} (ho:o.op=.call { callee:=.value (.func f),args:=args,argTypes:=Yg })
  (hv:(JG S st o.dst f (args.toList.map (pW st))).val=some bQ) (hd:∀k,o.dst=some k→k<a.tmps.size):Ca P w0 mu bQ o a w (kindOk S st o .one):=by
 have hq0:kindOk S st o .one=uM S st f (args.toList.map (pW st)):=by unfold kindOk;simp only [ho]
 rw [hq0];refine Np (vals:=args.map a.eval) hS h (fun fn VC q2 q3 => ?_) (by simp) (fun k m x hm hx => ?_) hv hd
 ·simp only [execOp,ho];simp [resolve,Act.eval,Deferred.ofValue,invoke,callFunc,Sem.run_bind,VC,q2,q3]
 ·rw [List.getElem?_map] at hm;rw [Array.toList_map,List.getElem?_map] at hx
  cases hy:args.toList[k]? with
  |none=>rw [hy] at hm;simp at hm
  |some y=>
   rw [hy] at hm hx;simp only [Option.map_some,Option.some.injEq] at hm hx;rw [←hm,←hx];exact cU h y
theorem VE {P:Program} {S:mW} (hS:oM P S) {w0:World} {mu:Mu} {c:Cz} {st bQ:St} {a:Act} {w:World} (h:Rel w0 mu c st a w) {o:Oper} {t g:Nat} {rs:RT} {xs:List (aO rs)} {x:aO rs} {args:Array Operand} {Yg:Array TypeId} (ho:o.op=.call { callee:=.value (.tmp t),args:=args,argTypes:=Yg })
  (ht:dN st t=.one (.fn g rs xs)) (UM:xs[0]?=some x) (hv:(JG S st o.dst g (args.toList.map (pW st)++zQ rs x)).val=some bQ) (hd:∀k,o.dst=some k→k<a.tmps.size):Ca P w0 mu bQ o a w (kindOk S st o .one):=by
 have hq0:kindOk S st o .one=uM S st g (args.toList.map (pW st)++zQ rs x):=by unfold kindOk;simp only [ho,ht,UM]
 rw [hq0];have UL:=h.jj t;rw [ht] at UL;obtain ⟨Ao,e,ahS⟩:=UL;obtain ⟨k1,k2⟩:=M5 (st:=st) rs Ao.toList x (ahS x UM);refine Np (vals:=args.map a.eval++Ao) hS h (fun fn VC q2 q3 => ?_) (by simp [k1]) (fun k m y hm hy => ?_) hv hd
 ·simp only [execOp,ho];simp [resolve,e,Deferred.ofValue,invoke,callFunc,Sem.run_bind,VC,q2,q3]
 ·rw [Array.toList_append] at hy
  by_cases hk:k<args.size
  ·rw [List.getElem?_append_left (by simpa using hk)] at hm hy;rw [List.getElem?_map] at hm;rw [Array.toList_map,List.getElem?_map] at hy
   cases hz:args.toList[k]? with
   |none=>rw [hz] at hm;simp at hm
   |some z=>
    rw [hz] at hm hy;simp only [Option.map_some,Option.some.injEq] at hm hy;rw [←hm,←hy];exact cU h z
  ·rw [List.getElem?_append_right (by simp;omega)] at hm hy;simp only [List.length_map,Array.length_toList,Array.toList_map] at hm hy;exact k2 _ m y hm hy
theorem qg {P:Program} {T:oU} (hT:jZ P T) (hE:zZ P T) {S:mW} (hS:oM P S) (w0:World) (mu:Mu) (n:Nat):wG P T S w0 mu n:=by
 intro c st bQ a w o h hn hd hv;have UN:∀k,o.dst=some k→k<a.tmps.size:=fun k hk=>by rw [hn];exact hd k hk
 by_cases hf:Op.Pu o.op=true
 ·cases ho:o.op with
  |call cl=>
   obtain ⟨callee,args,Yg⟩:=cl
   cases callee with
   |value x=>
    cases x with
    |func f=>
     unfold Q6 at hv;simp only [ho] at hv;exact VD hS h ho hv UN
    |tmp t=>
     unfold Q6 at hv;simp only [ho] at hv
     split at hv
     ·rename_i g rs xs ht
      cases UM:xs[0]? with
      |none=>simp [UM,N.val] at hv
      |some x=>
       simp only [UM] at hv;exact VE hS h ho ht UM hv UN
     ·simp [N.val] at hv
    |_=>rw [ho] at hf;simp [Op.Pu] at hf
   |_=>rw [ho] at hf;simp [Op.Pu] at hf
  |_=>rw [ho] at hf;simp [Op.Pu] at hf
 ·exact aa5 hT hE h (by simpa using hf) hv UN
end Go.TM
namespace Go.TM
open Go Go.RowKit
inductive OP where
 |int (k:IntKind)
 |bool
 |str
 |own (r:RT) (d:Md:=.sh)
 |shr (r:RT)
 |nV (r:RT)
 |fn (g:Nat) (rs:RT)
inductive AP where
 |val (agg:Bool) (ps:List OP)
 |io (r:RT) (d:Md:=.sh)
 |box (Lp:Bool) (ps:List OP)
 |dZ (ps:List OP)
def OP.ty:OP→Ty
 |.int k=>.int k
 |.bool=>.bool
 |.str=>.str
 |.own r _=>.sl r
 |.shr r=>.sl r
 |.nV r=>.sl r
 |.fn _ rs=>.sl rs
def OP.re:OP→Bool
 |.own _ _=>true
 |_=>false
def oZ:List OP→RT→RT
 | [],t=>t
 |p::ps,t=>.cons p.ty (oZ ps t)
def AP.rt:AP→RT→RT
 |.val _ ps,t=>oZ ps t
 |.io r _,t=>.cons (.sl r) t
 |.box _ ps,t=>oZ ps t
 |.dZ ps,t=>oZ ps t
def aG:List (Option AP)→RT
 | []=>.nil
 |none::l=>aG l
 |some p::l=>p.rt (aG l)
def OP.ov:(p:OP)→den p.ty→OV
 |.int k,n=>.int k n
 |.bool,b=>.bool b
 |.str,s=>.str s
 |.own r d,xs=>.own { r:=r,own:=true,xs:=xs,md:=d }
 |.shr r,xs=>.shr r xs
 |.nV r,xs=>.nV r xs
 |.fn g rs,xs=>.fn g rs xs
def fK:(ps:List OP)→(t:RT)→aO (oZ ps t)→List OV×aO t
 | [],_,x=>([],x)
 |p::ps,t,x=>(p.ov x.1::(fK ps t x.2).1,(fK ps t x.2).2)
def AP.av:(p:AP)→(t:RT)→aO (p.rt t)→AV×aO t
 |.val agg ps,t,x=>(.val agg (fK ps t x).1,(fK ps t x).2)
 |.io r d,_,x=>(.io { r:=r,own:=true,xs:=x.1,md:=d },x.2)
 |.box _ ps,t,x=>(.box (fK ps t x).1,(fK ps t x).2)
 |.dZ ps,t,x=>(.dZ (fK ps t x).1,(fK ps t x).2)
def ed:(l:List (Option AP))→aO (aG l)→List (Option AV)
 | [],_=>[]
 |none::l,x=>none::ed l x
 |some p::l,x=>some (p.av (aG l) x).1::ed l (p.av (aG l) x).2
def vj:(p:OP)→OV→Option (den p.ty)
 |.int k,.int l n=>if k=l then some n else none
 |.bool,.bool b=>some b
 |.str,.str s=>some s
 |.own r d,.own A=>bif A.md.is d then ez r A.xs else none
 |.own _ _,.gw=>some ([]:List _)
 |.shr r,.shr _ xs=>ez r xs
 |.shr _,.gw=>some ([]:List _)
 |.nV r,.nV _ xs=>ez r xs
 |.fn g rs,.fn f _ xs=>bif Nat.beq f g then ez rs xs else none
 |_,_=>none
def fC:(ps:List OP)→(t:RT)→List OV→aO t→Option (aO (oZ ps t))
 | [],_,[],y=>some y
 |p::ps,t,o::os,y=>match vj p o,fC ps t os y with
  |some x,some z=>some (x,z)
  |_,_=>none
 |_,_,_,_=>none
def J3:(p:AP)→(t:RT)→AV→aO t→Option (aO (p.rt t))
 |.val true ps,t,.val true os,y=>fC ps t os y
 |.val false ps,t,.val false os,y=>fC ps t os y
 |.io r d,_,.io A,y=>bif A.md.is d then (match ez r A.xs with
  |some xs=>some (xs,y)
  |none=>none) else none
 |.box _ ps,t,.box os,y=>fC ps t os y
 |.dZ ps,t,.dZ os,y=>fC ps t os y
 |_,_,_,_=>none
def ib:(l:List AP)→List AV→Option (aO (aG (l.map some)))
 | [],[]=>some ()
 |p::l,a::as=>match ib l as with
  |some y=>J3 p (aG (l.map some)) a y
  |none=>none
 |_,_=>none
def nA (st:St):(ps:List OP)→(t:RT)→List CV→aO t→Option (aO (oZ ps t)×List (Option Lb)×List (Nat×Nat))
 | [],_,[],y=>some (y,[],[])
 |p::ps,t,c::cs,y=>match lj st p.re c,nA st ps t cs y with
  |some (o,u,r),some (z,us,rs)=>match vj p o with
   |some x=>some ((x,z),u::us,r++rs)
   |none=>none
  |_,_=>none
 |_,_,_,_=>none
def FU (st:St) (k:Nat):(p:AP)→(t:RT)→V→aO t→Option (aO (p.rt t)×List Lb×List (Nat×Nat))
 |.val agg ps,t,v,y=>
  match agg,v with
  |true,.agg cs=>(nA st ps t cs y).map fun q=>(q.1,dO q.2.1,q.2.2)
  |false,.one c=>(nA st ps t [c] y).map fun q=>(q.1,dO q.2.1,q.2.2)
  |_,_=>none
 |.io r d,_,v,y=>
  match v with
  |.one (.ref a j g .full)=>bif Nat.beq a k&&(Nat.beq j 0&&Nat.beq g 1) then ((cO st a j g).bind fun A=>bif A.own&&A.md.is d then (ez r A.xs).map fun xs=>((xs,y),[.sp a j],[]) else none) else none
  |_=>none
 |.box Lp ps,t,v,y=>
  match v with
  |.one (.ptr b g off)=>bif Nat.beq off 0&&(!Lp||(Nat.beq b k&&Nat.beq g 1)) then ((fV st b g).bind fun cs=>(nA st ps t cs y).map fun q=>(q.1,.box b::dO q.2.1,q.2.2)) else none
  |_=>none
 |.dZ _,_,_,_=>none
def qh (st:St):(k:Nat)→(l:List (Option AP))→Option (aO (aG l)×List Lb×List (Nat×Nat))
 |_,[]=>some ((),[],[])
 |k,none::l=>qh st (k+1) l
 |k,some p::l=>match qh st (k+1) l with
  |some (y,us,rs)=>match FU st k p (aG l) (dN st k) y with
   |some (x,u,r)=>some (x,u++us,r++rs)
   |none=>none
  |none=>none
def Sl.blank:Sl:={ v:=.one .bad,box:=.none,bg:=1,bU:=[],ag:=1 }
def fe (k:Nat):Option AV→Sl
 |none=>Sl.blank
 |some (.dZ os)=>{ v:=.agg (bW k 1 0 os),box:=none,bg:=1,bU:=cj os,ag:=1 }
 |some (.val true os)=>{ v:=.agg (bW k 1 0 os),box:=none,bg:=1,bU:=cj os,ag:=1 }
 |some (.val false os)=>{ v:=match bW k 1 0 os with | [c]=>.one c | _=>.one .bad,box:=none,bg:=1,bU:=cj os,ag:=1 }
 |some (.io A)=>{ v:=.one (.ref k 0 1 .full),box:=none,bg:=1,bU:=[some A],ag:=1 }
 |some (.box os)=>{ v:=.one (.ptr k 1 0),box:=some (bW k 1 0 os),bg:=1,bU:=cj os,ag:=1 }
def ri:(k:Nat)→List (Option AV)→St
 |_,[]=>[]
 |k,a::l=>fe k a::ri (k+1) l
theorem J4:(l:List (Option AV))→(k i:Nat)→nth (ri k l) i=(l[i]?).map (fe (k+i))
 | [],_,_=>by simp [ri]
 |a::l,k,0=>by simp [ri,nth]
 |a::l,k,i+1=>by
  simp only [ri,nth,List.getElem?_cons_succ];rw [J4 l (k+1) i,show k+1+i=k+(i+1) by omega]
theorem Nq {c:Cz} {w:World} {f:Nat→Lb} {j:Nat}:(p:OP)→(o:OV)→(x:den p.ty)→vj p o=some x→{os EA:List OV}→{vs:List Value}→(∀l,cF c w f (j+1) os l→cF c w f (j+1) EA l)→cF c w f j (o::os) vs→cF c w f j (p.ov x::EA) vs
 |.int k,.int l n,x,hx,os,EA,vs,xA,h=>by
  have hx:(if k=l then some (n:Int) else none)=some (x:Int):=hx
  by_cases e:k=l
  ·rw [if_pos e] at hx;have hx:n=x:=Option.some.inj hx;obtain ⟨l',h1,h2⟩:=h;exact ⟨l',by rw [h1,e,hx],xA _ h2⟩
  ·rw [if_neg e] at hx
   cases hx
 |.bool,.bool b,x,hx,os,EA,vs,xA,h=>by
  have hx:b=x:=Option.some.inj hx;subst hx;obtain ⟨l',h1,h2⟩:=h;exact ⟨l',h1,xA _ h2⟩
 |.str,.str b,x,hx,os,EA,vs,xA,h=>by
  have hx:b=x:=Option.some.inj hx;subst hx;obtain ⟨l',h1,h2⟩:=h;exact ⟨l',h1,xA _ h2⟩
 |.own r d,.own A,x,hx,os,EA,vs,xA,h=>by
  obtain ⟨v,l',h1,⟨lc,h2⟩,h3⟩:=h;have hx:(bif A.md.is d then ez r A.xs else none)=some x:=hx;obtain ⟨hd,hx⟩:=bJ hx;have hd:=Md.ya.1 hd;obtain ⟨e,rfl⟩:=dm hx;obtain ⟨r0,SG,tR,md0⟩:=A;simp only at e hd;subst e;have ho:SG=true:=h2.2.2.1;subst ho;exact ⟨v,l',h1,⟨lc,h2⟩,xA _ h3⟩
 |.own r _,.gw,x,hx,os,EA,vs,xA,h=>by
  have hx:([]:List (aO r))=x:=Option.some.inj hx;subst hx;obtain ⟨l',h1,h2⟩:=h;exact ⟨_,l',h1,⟨.nil,rfl,⟨rfl,rfl⟩,rfl,rfl⟩,xA _ h2⟩
 |.shr r,.shr q xs,x,hx,os,EA,vs,xA,h=>by
  obtain ⟨v,l',h1,h2,h3⟩:=h;have hx:ez r xs=some x:=hx;obtain ⟨e,rfl⟩:=dm hx;subst e;exact ⟨v,l',h1,h2,xA _ h3⟩
 |.shr r,.gw,x,hx,os,EA,vs,xA,h=>by
  have hx:([]:List (aO r))=x:=Option.some.inj hx;subst hx;obtain ⟨l',h1,h2⟩:=h;exact ⟨_,l',h1,(rf _ _ _ _ _).2 (.inl ⟨rfl,rfl⟩),xA _ h2⟩
 |.nV r,.nV q xs,x,hx,os,EA,vs,xA,h=>by
  obtain ⟨v,l',h1,h2,h3⟩:=h;have hx:ez r xs=some x:=hx;obtain ⟨e,rfl⟩:=dm hx;subst e;exact ⟨v,l',h1,h2,xA _ h3⟩
 |.fn g r,.fn f q xs,x,hx,os,EA,vs,xA,h=>by
  obtain ⟨v,l',h1,h2,h3⟩:=h;have hx:(bif Nat.beq f g then ez r xs else none)=some x:=hx;obtain ⟨hfg,hx⟩:=bJ hx;have hfg:=Nat.eq_of_beq_eq_true hfg;subst hfg;obtain ⟨e,rfl⟩:=dm hx;subst e;exact ⟨v,l',h1,h2,xA _ h3⟩
 |.int _,.bool _,_,hx,_,_,_,_,_=>by cases hx
 |.int _,.str _,_,hx,_,_,_,_,_=>by cases hx
 |.int _,.own _,_,hx,_,_,_,_,_=>by cases hx
 |.int _,.shr _ _,_,hx,_,_,_,_,_=>by cases hx
 |.int _,.gw,_,hx,_,_,_,_,_=>by cases hx
 |.int _,.nV _ _,_,hx,_,_,_,_,_=>by cases hx
 |.int _,.fn _ _ _,_,hx,_,_,_,_,_=>by cases hx
 |.bool,.int _ _,_,hx,_,_,_,_,_=>by cases hx
 |.bool,.str _,_,hx,_,_,_,_,_=>by cases hx
 |.bool,.own _,_,hx,_,_,_,_,_=>by cases hx
 |.bool,.shr _ _,_,hx,_,_,_,_,_=>by cases hx
 |.bool,.gw,_,hx,_,_,_,_,_=>by cases hx
 |.bool,.nV _ _,_,hx,_,_,_,_,_=>by cases hx
 |.bool,.fn _ _ _,_,hx,_,_,_,_,_=>by cases hx
 |.str,.int _ _,_,hx,_,_,_,_,_=>by cases hx
 |.str,.bool _,_,hx,_,_,_,_,_=>by cases hx
 |.str,.own _,_,hx,_,_,_,_,_=>by cases hx
 |.str,.shr _ _,_,hx,_,_,_,_,_=>by cases hx
 |.str,.gw,_,hx,_,_,_,_,_=>by cases hx
 |.str,.nV _ _,_,hx,_,_,_,_,_=>by cases hx
 |.str,.fn _ _ _,_,hx,_,_,_,_,_=>by cases hx
 |.own _ _,.int _ _,_,hx,_,_,_,_,_=>by cases hx
 |.own _ _,.bool _,_,hx,_,_,_,_,_=>by cases hx
 |.own _ _,.str _,_,hx,_,_,_,_,_=>by cases hx
 |.own _ _,.shr _ _,_,hx,_,_,_,_,_=>by cases hx
 |.own _ _,.nV _ _,_,hx,_,_,_,_,_=>by cases hx
 |.own _ _,.fn _ _ _,_,hx,_,_,_,_,_=>by cases hx
 |.shr _,.int _ _,_,hx,_,_,_,_,_=>by cases hx
 |.shr _,.bool _,_,hx,_,_,_,_,_=>by cases hx
 |.shr _,.str _,_,hx,_,_,_,_,_=>by cases hx
 |.shr _,.own _,_,hx,_,_,_,_,_=>by cases hx
 |.shr _,.nV _ _,_,hx,_,_,_,_,_=>by cases hx
 |.shr _,.fn _ _ _,_,hx,_,_,_,_,_=>by cases hx
 |.nV _,.int _ _,_,hx,_,_,_,_,_=>by cases hx
 |.nV _,.bool _,_,hx,_,_,_,_,_=>by cases hx
 |.nV _,.str _,_,hx,_,_,_,_,_=>by cases hx
 |.nV _,.own _,_,hx,_,_,_,_,_=>by cases hx
 |.nV _,.shr _ _,_,hx,_,_,_,_,_=>by cases hx
 |.nV _,.gw,_,hx,_,_,_,_,_=>by cases hx
 |.nV _,.fn _ _ _,_,hx,_,_,_,_,_=>by cases hx
 |.fn _ _,.int _ _,_,hx,_,_,_,_,_=>by cases hx
 |.fn _ _,.bool _,_,hx,_,_,_,_,_=>by cases hx
 |.fn _ _,.str _,_,hx,_,_,_,_,_=>by cases hx
 |.fn _ _,.own _,_,hx,_,_,_,_,_=>by cases hx
 |.fn _ _,.shr _ _,_,hx,_,_,_,_,_=>by cases hx
 |.fn _ _,.gw,_,hx,_,_,_,_,_=>by cases hx
 |.fn _ _,.nV _ _,_,hx,_,_,_,_,_=>by cases hx
theorem xE {c:Cz} {w:World} {f:Nat→Lb}:(ps:List OP)→(t:RT)→(os:List OV)→(y:aO t)→{x:aO (oZ ps t)}→fC ps t os y=some x→(fK ps t x).2=y∧∀(j:Nat) (vs:List Value),cF c w f j os vs→cF c w f j (fK ps t x).1 vs
 | [],t,[],y,x,h=>by
  have h:y=x:=Option.some.inj h;subst h;exact ⟨rfl,fun _ _ h=>h⟩
 | [],_,_::_,_,_,h=>by simp [fC] at h
 |_::_,_,[],_,_,h=>by simp [fC] at h
 |p::ps,t,o::os,y,x,h=>by
  unfold fC at h
  cases h1:vj p o with
  |none=>simp [h1] at h
  |some a=>
   cases h2:fC ps t os y with
   |none=>simp [h1,h2] at h
   |some z=>
    simp only [h1,h2] at h;have h:(a,z)=x:=Option.some.inj h;subst h;obtain ⟨g1,g2⟩:=xE (c:=c) (w:=w) (f:=f) ps t os y h2;exact ⟨g1,fun j vs hh=>Nq p o a h1 (fun l=>g2 (j+1) l) hh⟩
theorem cF.VF {c:Cz} {w:World} {f:Nat→Lb}:(os:List OV)→(j:Nat)→(vs:List Value)→cF c w f j os vs→vs.length=os.length∧∀(k:Nat) (o:OV) (u:Value),os[k]?=some o→vs[k]?=some u→cF c w f (j+k) [o] [u]
 | [],j,vs,h=>by
  subst h;exact ⟨rfl,fun k o u h=>by simp at h⟩
 |o::os,j,vs,h=>by
  obtain ⟨v,l,rfl,h1,h2⟩:∃v l,vs=v::l∧cF c w f j [o] [v]∧cF c w f (j+1) os l:=by
   cases o with
   |int k n=>obtain ⟨l,h1,h2⟩:=h;exact ⟨_,l,h1,⟨[],rfl,rfl⟩,h2⟩
   |bool b=>obtain ⟨l,h1,h2⟩:=h;exact ⟨_,l,h1,⟨[],rfl,rfl⟩,h2⟩
   |str b=>obtain ⟨l,h1,h2⟩:=h;exact ⟨_,l,h1,⟨[],rfl,rfl⟩,h2⟩
   |gw=>obtain ⟨l,h1,h2⟩:=h;exact ⟨_,l,h1,⟨[],rfl,rfl⟩,h2⟩
   |shr r xs=>obtain ⟨v,l,h1,h2,h3⟩:=h;exact ⟨v,l,h1,⟨v,[],rfl,h2,rfl⟩,h3⟩
   |nV r xs=>obtain ⟨v,l,h1,h2,h3⟩:=h;exact ⟨v,l,h1,⟨v,[],rfl,h2,rfl⟩,h3⟩
   |fn g r xs=>obtain ⟨v,l,h1,h2,h3⟩:=h;exact ⟨v,l,h1,⟨v,[],rfl,h2,rfl⟩,h3⟩
   |own A=>obtain ⟨v,l,h1,h2,h3⟩:=h;exact ⟨v,l,h1,⟨v,[],rfl,h2,rfl⟩,h3⟩
  obtain ⟨g1,g2⟩:=cF.VF os (j+1) l h2;refine ⟨by simp [g1],fun k o' u ho hu => ?_⟩
  cases k with
  |zero=>
   simp only [List.getElem?_cons_zero,Option.some.injEq] at ho hu;subst ho hu;exact h1
  |succ k=>
   have:=g2 k o' u (by simpa using ho) (by simpa using hu)
   rwa [show j+1+k=j+(k+1) by omega] at this
theorem J5:(ps:List OP)→(t:RT)→(os:List OV)→(y:aO t)→{x:aO (oZ ps t)}→fC ps t os y=some x→∀(k:Nat) (o':OV),(fK ps t x).1[k]?=some o'→∃(p:OP) (o:OV) (z:den p.ty),os[k]?=some o∧vj p o=some z∧o'=p.ov z
 | [],t,[],y,x,h=>by
  intro k o' hk;simp [fK] at hk
 | [],_,_::_,_,_,h=>by simp [fC] at h
 |_::_,_,[],_,_,h=>by simp [fC] at h
 |p::ps,t,o::os,y,x,h=>by
  unfold fC at h
  cases h1:vj p o with
  |none=>simp [h1] at h
  |some a=>
   cases h2:fC ps t os y with
   |none=>simp [h1,h2] at h
   |some z=>
    simp only [h1,h2] at h;have h:(a,z)=x:=Option.some.inj h;subst h;intro k o' hk
    cases k with
    |zero=>
     have hk:some (p.ov a)=some o':=hk;simp only [Option.some.injEq] at hk;exact ⟨p,o,a,rfl,h1,hk.symm⟩
    |succ k=>
     have hk:(fK ps t z).1[k]?=some o':=hk;obtain ⟨p',o1,z',q1,q2,q3⟩:=J5 ps t os y h2 k o' hk;exact ⟨p',o1,z',by simpa using q1,q2,q3⟩
theorem SH {p:OP} {o:OV} {z:den p.ty} (h:vj p o=some z) {A:nu} (he:p.ov z=.own A):(∃B,o=.own B∧A.r=B.r∧A.own=true∧A.xs.length=B.xs.length∧(B.own=true→A=B))∨(o=.gw∧∃r d,A={ r:=r,own:=true,xs:=([]:List (aO r)),md:=d }):=by
 cases p with
 |own r d=>
  injection he with he;subst he
  cases o with
  |own B=>
   have h:(bif B.md.is d then ez r B.xs else none)=some z:=h;obtain ⟨hd,h⟩:=bJ h;have hd:=Md.ya.1 hd;obtain ⟨e,rfl⟩:=dm h;obtain ⟨r0,SG,tR,md0⟩:=B;simp only at e hd;subst e;exact .inl ⟨_,rfl,rfl,rfl,rfl,fun ho=>by simp only at ho;subst ho;rfl⟩
  |gw=>
   have h:([]:List (aO r))=z:=Option.some.inj h;subst h;exact .inr ⟨rfl,r,d,rfl⟩
  |_=>cases h
 |int _=>cases he
 |bool=>cases he
 |str=>cases he
 |shr _=>cases he
 |nV _=>cases he
 |fn _ _=>cases he
theorem Nr {p:OP} (z:den p.ty):p.ov z≠.gw:=by
 cases p<;>(intro h;cases h)
theorem Ns {c:Cz} {w:World} {i:Nat} {lc:Nat→Loc} {p:AP} {t:RT} {av:AV} {y:aO t} {x:aO (p.rt t)} (h:J3 p t av y=some x):(p.av t x).2=y∧∀v,wH c w i lc av v→wH c w i lc (p.av t x).1 v:=by
 cases p with
 |val agg ps=>
  cases agg with
  |true=>
   cases av with
   |val YP os=>
    cases YP with
    |true=>
     have h:fC ps t os y=some x:=h;obtain ⟨g1,g2⟩:=xE (c:=c) (w:=w) (f:=.dE i) ps t os y h;exact ⟨g1,fun v ⟨vs,hv,hl⟩=>⟨vs,hv,g2 0 _ hl⟩⟩
    |false=>cases h
   |_=>cases h
  |false=>
   cases av with
   |val YP os=>
    cases YP with
    |false=>
     have h:fC ps t os y=some x:=h;obtain ⟨g1,g2⟩:=xE (c:=c) (w:=w) (f:=.dE i) ps t os y h;exact ⟨g1,fun v hl=>g2 0 _ hl⟩
    |true=>cases h
   |_=>cases h
 |io r d=>
  cases av with
  |io A=>
   have h:(bif A.md.is d then (match ez r A.xs with | some xs=>some ((xs,y):aO (.cons (.sl r) t)) | none=>none) else none)=some x:=h;obtain ⟨hd,h⟩:=bJ h;have hd:=Md.ya.1 hd
   cases hc:ez r A.xs with
   |none=>rw [hc] at h;cases h
   |some xs=>
    rw [hc] at h
    cases h
    refine ⟨rfl,fun v hl => ?_⟩;obtain ⟨e,rfl⟩:=dm hc;obtain ⟨r0,SG,tR,md0⟩:=A;simp only at e hd;subst e;have ho:SG=true:=hl.2.2.1;subst ho;exact hl
  |_=>cases h
 |box Lp ps=>
  cases av with
  |box os=>
   have h:fC ps t os y=some x:=h;obtain ⟨g1,g2⟩:=xE (c:=c) (w:=w) (f:=.dE i) ps t os y h;exact ⟨g1,fun v ⟨rh,vs,ty,q1,q2,q3,q4⟩=>⟨rh,vs,ty,q1,q2,q3,g2 0 _ q4⟩⟩
  |_=>cases h
 |dZ ps=>
  cases av with
  |dZ os=>
   have h:fC ps t os y=some x:=h;obtain ⟨g1,g2⟩:=xE (c:=c) (w:=w) (f:=.dE i) ps t os y h;refine ⟨g1,fun v ⟨vs,q1,q2,q3⟩=>⟨vs,q1,g2 0 _ q2,fun j o u ho hu => ?_⟩⟩;obtain ⟨p,o0,z,k1,k2,rfl⟩:=J5 ps t os y h j o ho;have h0:=q3 j o0 u k1 hu;have hL:=(cF.VF os 0 _ q2).2 j o0 u k1 hu;unfold Vp at h0 ⊢
   cases he:p.ov z with
   |gw=>exact absurd he (Nr z)
   |own A=>
    rcases SH k2 he with ⟨B,rfl,e1,e2,e3,e4⟩ | ⟨rfl,r,d,rfl⟩
    ·have h0:OwnAt c w (.dE i j) (lc j) B u:=h0;have:=e4 h0.2.2.1;subst this;exact h0
    ·have h0:lc j=.nil:=h0;obtain ⟨l,hl,_⟩:=hL;injection hl with hl _;subst hl;show OwnAt c w (.dE i j) (lc j) _ _;rw [h0];exact ⟨rfl,⟨rfl,rfl⟩,rfl,rfl⟩
   |_=>trivial
  |_=>cases h
end Go.TM
namespace Go.TM
open Go Go.RowKit
theorem AD {w0:World} {mu:Mu} {c:Cz} {st:St} {a:Act} {w:World} (h:Rel w0 mu c st a w) {ρ:Lb→Option Lb} {f:Nat→Lb}:(ps:List OP)→(t:RT)→(cs:List CV)→(y:aO t)→(vs:List Value)→(j:Nat)→iQ c st w cs vs→{x:aO (oZ ps t)}→{u:List (Option Lb)}→{r:List (Nat×Nat)}→
  nA st ps t cs y=some (x,u,r)→(fK ps t x).2=y∧(∀l∈dO u,l.real=true)∧((∀k l,nth u k=some (some l)→ρ l=some (f (j+k)))→(∀p∈r,ρ (.sp p.1 p.2)=none)→cF (c.map ρ) w f j (fK ps t x).1 vs)
 | [],t,[],y,vs,j,hl,x,u,r,he=>by
  have he:some (y,([]:List (Option Lb)),([]:List (Nat×Nat)))=some (x,u,r):=he;injection he with he;injection he with e1 e2;injection e2 with e2 e3;subst e1 e2 e3;have:=hl.1;simp at this;exact ⟨rfl,by simp [dO],fun _ _=>List.length_eq_zero_iff.1 this.symm⟩
 | [],t,_::_,y,vs,j,hl,x,u,r,he=>by simp [nA] at he
 |_::_,t,[],y,vs,j,hl,x,u,r,he=>by simp [nA] at he
 |p::ps,t,cx::cs,y,vs,j,hl,x,u,r,he=>by
  obtain ⟨v,l,rfl,hx,By⟩:=hl.Z4;unfold nA at he
  cases hc:lj st p.re cx with
  |none=>simp [hc] at he
  |some q1=>
   obtain ⟨o,u1,r1⟩:=q1
   cases hq:nA st ps t cs y with
   |none=>simp [hc,hq] at he
   |some q2=>
    obtain ⟨z,us,rs⟩:=q2;simp only [hc,hq] at he
    cases ho:vj p o with
    |none=>simp [ho] at he
    |some a1=>
     simp only [ho] at he;injection he with he;injection he with e1 e2;injection e2 with e2 e3;subst e1 e2 e3;obtain ⟨g1,g2,g3⟩:=AD h (ρ:=ρ) (f:=f) ps t cs y l (j+1) By hq;refine ⟨g1,fun l' hm => ?_,fun hu hr => ?_⟩
     ·rw [lr] at hm;rcases List.mem_cons.1 hm with hm | hm
      ·obtain ⟨s,k,rfl⟩:=JS hc l' hm.symm;rfl
      ·exact g2 l' (lr.2 hm)
     ·have gS:=g3 (fun k' l' hk=>by
       have:=hu (k'+1) l' hk
       rwa [show j+(k'+1)=j+1+k' by omega] at this) (fun p hp=>hr p (List.mem_append_right _ hp))
      have h1:=Rk h (f:=f) (j:=j) hx hc (fun l' By=>hu 0 l' (by rw [By];rfl)) (fun p hp=>hr p (List.mem_append_left _ hp)) gS;exact Nq p o a1 ho (fun _ h=>h) h1
def EK (c:Cz) (w:World) (lc:Nat→Nat→Loc) (a:Act) (k:Nat) (l:List (Option AV)):Prop:=
 ∀i av,l[i]?=some (some av)→wH c w (k+i) (lc (k+i)) av (a.eval (.tmp (k+i)))
theorem Dv {w0:World} {mu:Mu} {c:Cz} {st:St} {a:Act} {w:World} (h:Rel w0 mu c st a w) (k:Nat) {p:AP} {t:RT} {V:V} {y:aO t} {v:Value} (hV:il c st w V v) {x:aO (p.rt t)} {u:List Lb} {r:List (Nat×Nat)} (he:FU st k p t V y=some (x,u,r)) :
  (p.av t x).2=y∧(∀l∈u,l.real=true)∧∃tb:List (Lb×Lb),tb.map (·.1)=u∧(∀p∈tb,p.2.nw=true)∧∀ρ:Lb→Option Lb,(∀p∈tb,ρ p.1=some p.2)→(∀p∈r,ρ (.sp p.1 p.2)=none)→wH (c.map ρ) w k (c.lc k) (p.av t x).1 v:=by
 have vals:∀(ps:List OP) (cs:List CV) (x:aO (oZ ps t)) (us:List (Option Lb)) (rs:List (Nat×Nat)) (vs:List Value),iQ c st w cs vs→nA st ps t cs y=some (x,us,rs)→(fK ps t x).2=y∧(∀l∈dO us,l.real=true)∧
   ∀ρ:Lb→Option Lb,(∀p∈Dq (.dE k) 0 us,ρ p.1=some p.2)→(∀p∈rs,ρ (.sp p.1 p.2)=none)→cF (c.map ρ) w (.dE k) 0 (fK ps t x).1 vs:=by
  intro ps cs x us rs vs hl hq;refine ⟨(AD h (ρ:=fun _=>none) (f:=.dE k) ps t cs y vs 0 hl hq).1,(AD h (ρ:=fun _=>none) (f:=.dE k) ps t cs y vs 0 hl hq).2.1,fun ρ hp hr=>(AD h (ρ:=ρ) (f:=.dE k) ps t cs y vs 0 hl hq).2.2 (fun k' l hk => ?_) hr⟩;have:=hp _ (AB (.dE k) 0 us k' l hk);simpa using this
 cases p with
 |val agg ps=>
  cases agg with
  |true=>
   cases V with
   |agg cs=>
    have he:(nA st ps t cs y).map (fun q=>(q.1,dO q.2.1,q.2.2))=some (x,u,r):=he
    cases hq:nA st ps t cs y with
    |none=>rw [hq] at he;cases he
    |some q=>
     obtain ⟨z,us,rs⟩:=q;rw [hq] at he;injection he with he;injection he with e1 e2;injection e2 with e2 e3;subst e1 e2 e3;obtain ⟨vs,rfl,hl⟩:=hV;obtain ⟨g1,g2,g3⟩:=vals _ _ _ _ _ _ hl hq;exact ⟨g1,g2,l7 k (.val true []) [] us,pB _ _ _ _,pC _ _ _ _,fun ρ hp hr=>⟨vs,rfl,g3 ρ (fun p lP=>hp p (by simpa [l7] using lP)) hr⟩⟩
   |one _=>cases he
   |p8 _=>cases he
  |false=>
   cases V with
   |one cx=>
    have he:(nA st ps t [cx] y).map (fun q=>(q.1,dO q.2.1,q.2.2))=some (x,u,r):=he
    cases hq:nA st ps t [cx] y with
    |none=>rw [hq] at he;cases he
    |some q=>
     obtain ⟨z,us,rs⟩:=q;rw [hq] at he;injection he with he;injection he with e1 e2;injection e2 with e2 e3;subst e1 e2 e3;obtain ⟨g1,g2,g3⟩:=vals _ _ _ _ _ [v] ⟨rfl,fun k y z hy hz=>by
      cases k with
      |zero=>simp at hy hz;subst hy hz;exact hV
      |succ k=>simp at hy⟩ hq
     exact ⟨g1,g2,l7 k (.val true []) [] us,pB _ _ _ _,pC _ _ _ _,fun ρ hp hr=>g3 ρ (fun p lP=>hp p (by simpa [l7] using lP)) hr⟩
   |agg _=>cases he
   |p8 _=>cases he
 |io rr d=>
  cases V with
  |one cx=>
   cases cx with
   |ref s j g vw=>
    cases vw with
    |full=>
     have he:(bif Nat.beq s k&&(Nat.beq j 0&&Nat.beq g 1) then ((cO st s j g).bind fun A=>bif A.own&&A.md.is d then (ez rr A.xs).map fun xs=>((xs,y),[Lb.sp s j],([]:List (Nat×Nat))) else none) else none)=some (x,u,r):=he;obtain ⟨h1,BQ⟩:=bJ he;clear he;rw [Bool.and_eq_true,Bool.and_eq_true] at h1;have e1:=Nat.eq_of_beq_eq_true h1.1;have e2:=Nat.eq_of_beq_eq_true h1.2.1;subst e1 e2
     cases hA:cO st s 0 g with
     |none=>rw [hA] at BQ;cases BQ
     |some A=>
      rw [hA] at BQ;obtain ⟨ho,he2⟩:=bJ BQ;rw [Bool.and_eq_true] at ho;have hd:=Md.ya.1 ho.2;have ho:=ho.1
      cases hc:ez rr A.xs with
      |none=>rw [hc] at he2;cases he2
      |some xs=>
       rw [hc] at he2;injection he2 with he2;injection he2 with e1 e2;injection e2 with e2 e3;subst e1 e2 e3;refine ⟨rfl,by simp [Lb.real],[(.sp s 0,.dE s 0)],rfl,by simp [Lb.nw],fun ρ hp _ => ?_⟩;have ha:=Dl h hA;have hs:=hV.2.2 A hA;have hρ:ρ (.sp s 0)=some (.dE s 0):=hp (.sp s 0,.dE s 0) (by simp);obtain ⟨e,rfl⟩:=dm hc;obtain ⟨r0,SG,tR,md0⟩:=A;simp only at e hd;subst e;have ho:SG=true:=by first | exact ho | exact ho.1
       subst ho;refine ⟨hV.1,hs,rfl,?_⟩;unfold fJ at ha
       cases np:c.lc s 0 with
       |nil=>rw [np] at ha;exact ha
       |«at» b off cap=>
        rw [np] at ha;obtain ⟨h0,h2,h3,h4⟩:=ha;exact ⟨(Cz.nX h0).trans hρ,h2,h3,h4.map hρ⟩
    |«from» _=>cases he
    |sub _ _=>cases he
   |_=>cases he
  |agg _=>cases he
  |p8 _=>cases he
 |box Lp ps=>
  cases V with
  |one cx=>
   cases cx with
   |ptr b g off=>
    have he:(bif Nat.beq off 0&&(!Lp||(Nat.beq b k&&Nat.beq g 1)) then ((fV st b g).bind fun cs=>(nA st ps t cs y).map fun q=>(q.1,Lb.box b::dO q.2.1,q.2.2)) else none)=some (x,u,r):=he;obtain ⟨h1,BQ⟩:=bJ he;clear he;rw [Bool.and_eq_true] at h1;have e1:=Nat.eq_of_beq_eq_true h1.1;subst e1
    cases hb:fV st b g with
    |none=>rw [hb] at BQ;cases BQ
    |some cs=>
     rw [hb] at BQ;simp only [Option.bind_some] at BQ
     cases hq:nA st ps t cs y with
     |none=>rw [hq] at BQ;cases BQ
     |some q=>
      obtain ⟨z,us,rs⟩:=q;rw [hq] at BQ;injection BQ with BQ;injection BQ with e1 e2;injection e2 with e2 e3;subst e1 e2 e3;obtain ⟨sl,k1,k2,k3⟩:=ka hb;obtain ⟨h1,vs,ty,h2,h3⟩:=h.boxes b sl cs k1 k3;obtain ⟨g1,g2,g3⟩:=vals _ _ _ _ _ _ h3 hq;refine ⟨g1,fun l hl => ?_,l7 k (.box []) [.box b] us,by rw [pB];rfl,pC _ _ _ _,fun ρ hp hr=>⟨c.bx b,vs,ty,hV.2.2 cs hb,?_,h2,g3 ρ (fun p lP=>hp p (List.mem_append_right _ lP)) hr⟩⟩
      ·rcases List.mem_cons.1 hl with rfl | hl
       ·rfl
       ·exact g2 l hl
      ·exact (Cz.nX h1).trans (hp (.box b,.xz k) (by simp [l7]))
   |_=>cases he
  |agg _=>cases he
  |p8 _=>cases he
 |dZ ps=>cases he
theorem AE {w0:World} {mu:Mu} {c:Cz} {st:St} {a:Act} {w:World} (h:Rel w0 mu c st a w):(l:List (Option AP))→(k:Nat)→{x:aO (aG l)}→{u:List Lb}→{r:List (Nat×Nat)}→qh st k l=some (x,u,r)→
  (∀l∈u,l.real=true)∧∃tb:List (Lb×Lb),tb.map (·.1)=u∧(∀p∈tb,p.2.nw=true)∧∀ρ:Lb→Option Lb,(∀p∈tb,ρ p.1=some p.2)→(∀p∈r,ρ (.sp p.1 p.2)=none)→EK (c.map ρ) w c.lc a k (ed l x)
 | [],k,x,u,r,he=>by
  have he:some ((),([]:List Lb),([]:List (Nat×Nat)))=some (x,u,r):=he;injection he with he;injection he with _ e2;injection e2 with e2 e3;subst e2 e3;exact ⟨by simp,[],rfl,by simp,fun ρ _ _ i av hi=>by simp [ed] at hi⟩
 |none::l,k,x,u,r,he=>by
  obtain ⟨g1,tb,g2,g3,g4⟩:=AE h l (k+1) he;refine ⟨g1,tb,g2,g3,fun ρ hp hr i av hi => ?_⟩
  cases i with
  |zero=>simp [ed] at hi
  |succ i=>
   have:=g4 ρ hp hr i av (by simpa [ed] using hi)
   rwa [show k+1+i=k+(i+1) by omega] at this
 |some p::l,k,x,u,r,he=>by
  unfold qh at he
  cases h1:qh st (k+1) l with
  |none=>simp [h1] at he
  |some q1=>
   obtain ⟨y,us,rs⟩:=q1;simp only [h1] at he
   cases h2:FU st k p (aG l) (dN st k) y with
   |none=>simp [h2] at he
   |some q2=>
    obtain ⟨x1,u1,r1⟩:=q2;simp only [h2] at he;injection he with he;injection he with e1 e2;injection e2 with e2 e3;subst e1 e2 e3;obtain ⟨g1,tb,g2,g3,g4⟩:=AE h l (k+1) h1;obtain ⟨a1,a2,ta,a3,a4,a5⟩:=Dv h k (h.jj k) h2;refine ⟨fun l' hl => ?_,ta++tb,by simp [a3,g2],fun p hp => ?_,fun ρ hp hr i av hi => ?_⟩
    ·rcases List.mem_append.1 hl with hl | hl
     ·exact a2 l' hl
     ·exact g1 l' hl
    ·rcases List.mem_append.1 hp with hp | hp
     ·exact a4 p hp
     ·exact g3 p hp
    ·cases i with
     |zero=>
      have hi:some (some (p.av (aG l) x1).1)=some (some av):=hi;simp only [Option.some.injEq] at hi;subst hi;exact a5 ρ (fun p lP=>hp p (List.mem_append_left _ lP)) (fun p lP=>hr p (List.mem_append_left _ lP))
     |succ i=>
      have hi:(ed l (p.av (aG l) x1).2)[i]?=some (some av):=hi;rw [a1] at hi;have:=g4 ρ (fun p lP=>hp p (List.mem_append_right _ lP)) (fun p lP=>hr p (List.mem_append_right _ lP)) i av hi
      rwa [show k+1+i=k+(i+1) by omega] at this
end Go.TM
namespace Go.TM
open Go Go.RowKit
def VG (L:List (Option AV)) (lc:Nat→Nat→Loc) (a:Act):Sc→Prop
 |.arr i j g W n l=>g=1∧i<L.length∧∀av,L[i]?=some (some av)→(∃A,av=.io A∧(j=0→A.r.width=W∧A.xs.length=n∧lc i 0=l))∨∃os,av=.dZ os∧∀A,os[j]?=some (.own A)→A.r.width=W∧A.xs.length=n∧lc i j=l
 |.box i g rh=>g=1∧i<L.length∧∀os,L[i]?=some (some (.box os))→a.eval (.tmp i)=.pointer (some ⟨rh,0,none⟩)
def VH:Lb→Lb
 |.dE i j=>.sp i j
 |.xz i=>.box i
 |l=>l
structure VI (c:Cz) (w:World) (k:Nat) (av:Option AV) (u:Value) (lio:Nat→Loc) (rh:Nat) (lcs:Nat→Loc):Prop where
 arr:∀j A,nth (fe k av).bU j=some (some A)→∃v,OwnAt c w (.dE k j) (lcs j) A v
 reg:∀(c2:Cz) (lV:St),(∀b,c.ok b→c2.ok b)→c2.bx k=rh→c2.lc k=lcs→nth lV k=some (fe k av)→il c2 lV w (fe k av).v u
 box:∀cs,(fe k av).box=some cs→u=.pointer (some ⟨rh,0,none⟩)∧c.own rh=some (.xz k)∧∃vs ty,w.heap[rh]?=some (.cells vs ty (0,0))∧
  ∀(c2:Cz) (lV:St),(∀b,c.ok b→c2.ok b)→c2.lc k=lcs→nth lV k=some (fe k av)→iQ c2 lV w cs vs.toList
 io:∀A,av=some (.io A)→lcs 0=lio 0
 dZ:∀os,av=some (.dZ os)→lcs=lio
theorem uO {st:St} {k j:Nat} {av:Option AV} {A:nu} (h:nth st k=some (fe k av)) (hA:cO st k j 1=some A):nth (fe k av).bU j=some (some A):=by
 obtain ⟨sl,h1,_,h3⟩:=dK hA;rw [h] at h1;cases h1;exact h3
theorem uP {st:St} {k:Nat} {av:Option AV} (h:nth st k=some (fe k av)):gP st k=1:=by
 unfold gP;rw [h]
 cases av with
 |none=>rfl
 |some av=>cases av with
  |val agg os=>cases agg<;>rfl
  |io A=>rfl
  |box os=>rfl
  |dZ os=>rfl
theorem J6 {st:St} {k:Nat} {av:Option AV} (h:nth st k=some (fe k av)):j5 st k=1:=by
 unfold j5;rw [h]
 cases av with
 |none=>rfl
 |some av=>cases av with
  |val agg os=>cases agg<;>rfl
  |io A=>rfl
  |box os=>rfl
  |dZ os=>rfl
theorem Dw:(os:List OV)→(j:Nat)→{A:nu}→nth (cj os) j=some (some A)→os[j]?=some (.own A)
 | [],_,_,h=>by simp [cj] at h
 |o::os,0,A,h=>by
  simp only [cj,nth,Option.some.injEq] at h
  cases o with
  |own B=>injection h with h;subst h;rfl
  |_=>cases h
 |o::os,j+1,A,h=>by
  have:=Dw os j (A:=A) h;simpa using this
theorem J7 {d g:Nat}:(os:List OV)→(j k:Nat)→(o:OV)→os[k]?=some o→∃x,bW d g (j+k) [o]=[x]∧(bW d g j os)[k]?=some x
 | [],_,_,_,h=>by simp at h
 |o::os,j,0,o',h=>by
  simp only [List.getElem?_cons_zero,Option.some.injEq] at h;subst h
  cases o<;>exact ⟨_,rfl,rfl⟩
 |o::os,j,k+1,o',h=>by
  obtain ⟨x,h1,h2⟩:=J7 (d:=d) (g:=g) os (j+1) k o' (by simpa using h);rw [show j+1+k=j+(k+1) by omega] at h1;refine ⟨x,h1,?_⟩
  cases o<;>simpa [bW] using h2
theorem Ho {d g:Nat}:(os:List OV)→(j:Nat)→(bW d g j os).length=os.length
 | [],_=>rfl
 |o::os,j=>by cases o<;>simp [bW,Ho os (j+1)]
theorem cF.VJ {c:Cz} {w:World} {f:Nat→Lb} {os:List OV} {vs:List Value} (h:cF c w f 0 os vs) (lcs:Nat→Loc) (ho:∀k A u,os[k]?=some (.own A)→vs[k]?=some u→∃l,OwnAt c w l (lcs k) A u)
  (c2:Cz) (lV:St) (d g:Nat) (iP:∀b,c.ok b→c2.ok b) (np:∀k,c2.lc d k=lcs k) (EG:∀k A,cO lV d k g=some A→os[k]?=some (.own A)) (hg:g≤gP lV d):iQ c2 lV w (bW d g 0 os) vs:=by
 obtain ⟨h1,h2⟩:=cF.VF os 0 vs h;refine ⟨by rw [Ho,h1],fun k x v hx hv => ?_⟩;have dM:k<os.length:=by rw [←h1];exact (List.getElem?_eq_some_iff.1 hv).1
 have Px:os[k]?=some os[k]:=List.getElem?_eq_getElem dM;obtain ⟨y,q1,q2⟩:=J7 (d:=d) (g:=g) os 0 k _ Px;rw [q2] at hx
 cases hx
 have hL:=h2 k _ v Px hv;rw [Nat.zero_add] at q1;generalize os[k]=o at *
 cases o with
 |own A=>
  simp only [bW,List.cons.injEq,and_true] at q1;subst q1;obtain ⟨l,hO⟩:=ho k A v Px hv;refine ⟨hO.1,hg,fun A' iB => ?_⟩;have:=EG k A' iB;rw [Px] at this
  cases this
  rw [np];exact hO.2.1
 |shr r xs=>
  simp only [bW,List.cons.injEq,and_true] at q1;subst q1;obtain ⟨v',l,e,h3,_⟩:=hL
  cases e
  exact ev.stays ⟨Nat.le_refl _,fun _ _ _=>rfl,fun b _ hb=>iP b hb⟩ _ _ _ h3
 |nV r xs=>
  simp only [bW,List.cons.injEq,and_true] at q1;subst q1;obtain ⟨v',l,e,⟨b,oo,e1,e2,e3,e4⟩,_⟩:=hL
  cases e
  exact ⟨b,oo,e1,e2,iP b e3,fun x hx=>fH.stays ⟨Nat.le_refl _,fun _ _ _=>rfl,fun b _ hb=>iP b hb⟩ _ _ _ _ rfl (e4 x hx)⟩
 |fn fg r xs=>
  simp only [bW,List.cons.injEq,and_true] at q1;subst q1;obtain ⟨v',l,e,h3,_⟩:=hL
  cases e
  exact h3.stays ⟨Nat.le_refl _,fun _ _ _=>rfl,fun b _ hb=>iP b hb⟩
 |_=>
  simp only [bW,List.cons.injEq,and_true] at q1;subst q1;obtain ⟨l,e,_⟩:=hL
  cases e
  rfl
theorem YQ {c:Cz} {w:World} {k:Nat} {lio:Nat→Loc} {av:Option AV} {u:Value} (h:∀v,av=some v→wH c w k lio v u):∃rh lcs,VI c w k av u lio rh lcs:=by
 cases av with
 |none=>exact ⟨0,fun _=>.nil,fun j A hA=>by simp [fe,Sl.blank] at hA,fun c2 lV _ _ _ _=>trivial,fun cs Aq=>by simp [fe,Sl.blank] at Aq,fun A hA=>(by cases hA),fun A hA=>(by cases hA)⟩
 |some av=>
  have h:=h av rfl
  cases av with
  |val agg os=>
   cases agg with
   |true=>
    obtain ⟨vs,rfl,hl⟩:=h;obtain ⟨lcs,g1,g2⟩:=cF.cells os 0 _ hl;simp only [Nat.zero_add] at g1 g2;refine ⟨0,lcs,fun j A hA=>g1 j A hA,fun c2 lV iP _ np hn=>⟨vs,rfl,?_⟩,fun cs Aq=>by simp [fe] at Aq,fun A hA=>(by cases hA),fun A hA=>(by cases hA)⟩;exact g2 c2 lV k 1 iP (fun j _=>by rw [np]) (fun j A _ hA=>uO hn hA) (by rw [uP hn];exact Nat.le_refl _)
   |false=>
    have hl:cF c w (.dE k) 0 os [u]:=h;obtain ⟨lcs,g1,g2⟩:=cF.cells os 0 _ hl;simp only [Nat.zero_add] at g1 g2;refine ⟨0,lcs,fun j A hA=>g1 j A hA,fun c2 lV iP _ np hn => ?_,fun cs Aq=>by simp [fe] at Aq,fun A hA=>(by cases hA),fun A hA=>(by cases hA)⟩;have hR:=g2 c2 lV k 1 iP (fun j _=>by rw [np]) (fun j A _ hA=>uO hn hA) (by rw [uP hn];exact Nat.le_refl _);show il c2 lV w (match bW k 1 0 os with | [c]=>.one c | _=>.one .bad) u;have h1:=hR.1
    cases hc:bW k 1 0 os with
    |nil=>trivial
    |cons x l=>cases l with
     |nil=>rw [hc] at hR;exact hR.2 0 x u rfl rfl
     |cons _ _=>trivial
  |io A=>
   have hO:OwnAt c w (.dE k 0) (lio 0) A u:=h;refine ⟨0,lio,fun j A' iB => ?_,fun c2 lV iP _ np hn => ?_,fun cs Aq=>by simp [fe] at Aq,fun A hA=>rfl,fun A hA=>by cases hA⟩
   ·cases j with
    |zero=>simp [fe,nth] at iB;subst iB;exact ⟨u,hO⟩
    |succ j=>simp [fe,nth] at iB
   ·refine ⟨hO.1,by rw [uP hn];exact Nat.le_refl _,fun A' iB => ?_⟩;have:=uO hn iB;simp [fe,nth] at this;subst this;rw [np];exact hO.2.1
  |dZ os=>
   obtain ⟨vs,rfl,hl,abd⟩:=h;have lq:∀j A u,os[j]?=some (.own A)→vs.toList[j]?=some u→OwnAt c w (.dE k j) (lio j) A u:=fun j A u h1 h2=>abd j _ u h1 h2
   obtain ⟨n1,_⟩:=cF.VF os 0 _ hl;refine ⟨0,lio,fun j A' iB => ?_,fun c2 lV iP _ np hn=>⟨vs,rfl,?_⟩,fun cs Aq=>by simp [fe] at Aq,fun A hA=>(by cases hA),fun EA _=>rfl⟩
   ·have hj:=Dw os j iB;have dM:j<vs.toList.length:=by rw [n1];exact (List.getElem?_eq_some_iff.1 hj).1
    exact ⟨_,lq j A' _ hj (List.getElem?_eq_getElem dM)⟩
   ·exact cF.VJ hl lio (fun j A u h1 h2=>⟨_,lq j A u h1 h2⟩) c2 lV k 1 iP (fun j=>by rw [np]) (fun j A hA=>Dw os j (uO hn hA)) (by rw [uP hn];exact Nat.le_refl _)
  |box os=>
   obtain ⟨rh,vs,ty,h1,h2,h3,hl⟩:=h;obtain ⟨lcs,g1,g2⟩:=cF.cells os 0 _ hl;simp only [Nat.zero_add] at g1 g2;refine ⟨rh,lcs,fun j A hA=>g1 j A hA,fun c2 lV iP G4 np hn=>⟨by rw [h1];rfl,by rw [J6 hn];exact Nat.le_refl _,fun cs _=>by rw [G4];exact h1⟩,fun cs Aq=>⟨h1,h2,vs,ty,h3,fun c2 lV iP np hn => ?_⟩,fun A hA=>(by cases hA),fun A hA=>(by cases hA)⟩;simp only [fe,Option.some.injEq] at Aq;subst Aq;exact g2 c2 lV k 1 iP (fun j _=>by rw [np]) (fun j A _ hA=>uO hn hA) (by rw [uP hn];exact Nat.le_refl _)
theorem Rel.Rp {w0:World} {mu:Mu} {c:Cz} {a:Act} {w:World} {L:List (Option AV)} {lc:Nat→Nat→Loc} (hb:FN w0 mu c w) (hd:a.defers=[]) (hL:EK c w lc a 0 L) (hA:∀p∈mu.an,VG L lc a p):∃c',Rel w0 mu c' (ri 0 L) a w:=by
 have hsl:∀k,∃q:Nat×(Nat→Loc),VI c w k ((L[k]?).getD none) (a.eval (.tmp k)) (lc k) q.1 q.2:=by
  intro k;obtain ⟨rh,lcs,h⟩:=YQ (c:=c) (w:=w) (k:=k) (lio:=lc k) (av:=(L[k]?).getD none) (u:=a.eval (.tmp k)) (fun v hv=>by
   have:=hL k v (by
    cases hq:L[k]? with
    |none=>rw [hq] at hv;cases hv
    |some o=>rw [hq] at hv;simp at hv;rw [hv])
   simpa using this)
  exact ⟨(rh,lcs),h⟩
 obtain ⟨q,hq⟩:=Classical.axiomOfChoice hsl;have hn:∀k,nth (ri 0 L) k=(L[k]?).map (fe k):=fun k=>by have:=J4 L 0 k;simpa using this
 have YM:∀k sl,nth (ri 0 L) k=some sl→∃o,L[k]?=some o∧sl=fe k o∧nth (ri 0 L) k=some (fe k ((L[k]?).getD none))∧(L[k]?).getD none=o:=by
  intro k sl h;rw [hn] at h
  cases ho:L[k]? with
  |none=>rw [ho] at h;cases h
  |some o=>
   rw [ho] at h
   cases h
   refine ⟨o,rfl,rfl,?_,rfl⟩;rw [hn,ho];rfl
 let c':=c.ia VH (fun k=>(q k).1) (fun k=>(q k).2)
 have iP:∀b,c.ok b→c'.ok b:=fun b hb=>Cz.se.2 hb
 refine ⟨c',fun t => ?_,fun s sl cs hs G4 => ?_,fun s j sl A hs iB => ?_,fun b l hl => ?_,fun b dM hl=>hb.free b dM (by simpa [c',Cz.ia] using hl),hb.kept,hb.old,hd,fun p hp => ?_⟩
 ·cases hs:nth (ri 0 L) t with
  |none=>
   have:dN (ri 0 L) t=.one .bad:=by unfold dN;rw [hs]
   rw [this];trivial
  |some sl=>
   obtain ⟨o,h1,rfl,h3,h4⟩:=YM t sl hs;have:dN (ri 0 L) t=(fe t ((L[t]?).getD none)).v:=by unfold dN;rw [h3]
   rw [this];exact (hq t).reg c' (ri 0 L) iP rfl rfl h3
 ·obtain ⟨o,h1,rfl,h3,h4⟩:=YM s sl hs;rw [←h4] at G4;obtain ⟨g1,g2,vs,ty,g3,g4⟩:=(hq s).box cs G4;refine ⟨?_,vs,ty,g3,g4 c' (ri 0 L) iP rfl h3⟩;show (c.own (q s).1).map VH=_;rw [g2];rfl
 ·obtain ⟨o,h1,rfl,h3,h4⟩:=YM s sl hs;rw [←h4] at iB;obtain ⟨v,hv⟩:=(hq s).arr j A iB;exact hv.arr rfl rfl
 ·simp only [c',Cz.ia,Option.map_eq_some_iff] at hl;obtain ⟨k,hk,e⟩:=hl;obtain ⟨h1,h2⟩:=hb.owned b k hk;refine ⟨h1,h2.imp (fun e2 => ?_) id⟩;subst e2;rw [←e];rfl
 ·have hf:=hA p hp
  cases p with
  |arr i j g W n l=>
   obtain ⟨rfl,hi,Nk⟩:=hf;have hs:nth (ri 0 L) i=some (fe i ((L[i]?).getD none)):=by rw [hn];simp [List.getElem?_eq_getElem hi]
   refine ⟨by rw [uP hs];exact Nat.le_refl _,fun A iB => ?_⟩;have h3:=uO hs iB
   cases ho:L[i]? with
   |none=>rw [ho] at h3;simp [fe,Sl.blank] at h3
   |some o=>cases o with
    |none=>rw [ho] at h3;simp [fe,Sl.blank] at h3
    |some av=>
     rcases Nk av ho with ⟨A0,rfl,h5⟩ | ⟨os,rfl,h5⟩
     case inr=>
      rw [ho] at h3;obtain ⟨e1,e2,e3⟩:=h5 A (Dw os j h3);refine ⟨e1,e2,?_⟩;rw [←e3];have:=(hq i).dZ os (by rw [ho];rfl);show (q i).2 j=lc i j;rw [this]
     rw [ho] at h3
     cases j with
     |zero=>
      simp [fe,nth] at h3;subst h3;obtain ⟨e1,e2,e3⟩:=h5 rfl;exact ⟨e1,e2,((hq i).io A0 (by rw [ho];rfl)).trans e3⟩
     |succ j=>simp [fe,nth] at h3
  |box i g rh=>
   obtain ⟨rfl,hi,Nk⟩:=hf;have hs:nth (ri 0 L) i=some (fe i ((L[i]?).getD none)):=by rw [hn];simp [List.getElem?_eq_getElem hi]
   refine ⟨by rw [J6 hs];exact Nat.le_refl _,fun cs Aq => ?_⟩;obtain ⟨sl,k1,k2,k3⟩:=ka Aq;rw [hs] at k1;cases k1;obtain ⟨g1,_⟩:=(hq i).box cs k3;have xA:∃os,L[i]?=some (some (.box os)):=by
    cases ho:L[i]? with
    |none=>rw [ho] at k3;simp [fe,Sl.blank] at k3
    |some o=>cases o with
     |none=>rw [ho] at k3;simp [fe,Sl.blank] at k3
     |some av=>cases av with
      |val agg os=>rw [ho] at k3;cases agg<;>simp [fe] at k3
      |io A=>rw [ho] at k3;simp [fe] at k3
      |dZ os=>rw [ho] at k3;simp [fe] at k3
      |box os=>exact ⟨os,rfl⟩
   obtain ⟨os,xA⟩:=xA;have:=Nk os xA;rw [this] at g1;injection g1 with g1;injection g1 with g1;injection g1 with g1;exact g1.symm
end Go.TM
namespace Go.TM
open Go Go.RowKit
inductive Src where
 |tmp (t:Nat)
 |cell (t:Nat)
 |ptr (t:Nat)  -- R9 struct behind a pointer,asA is nw back
structure RP where
 src:Src
 agg:Bool
 ps:List OP
def ew:List RP→RT→RT
 | [],t=>t
 |r::rs,t=>oZ r.ps (ew rs t)
def vk:List OP→RT→RT
 | [],t=>t
 |.own r _::ps,t=>.cons (.sl r) (vk ps t)
 |.int _::ps,t=>vk ps t
 |.bool::ps,t=>vk ps t
 |.str::ps,t=>vk ps t
 |.shr _::ps,t=>vk ps t
 |.nV _::ps,t=>vk ps t
 |.fn _ _::ps,t=>vk ps t
def cG:List AP→RT
 | []=>.nil
 |.val _ _::l=>cG l
 |.io r _::l=>.cons (.sl r) (cG l)
 |.box _ ps::l=>oZ ps (cG l)
 |.dZ ps::l=>vk ps (cG l)
def RP.cells (st:St) (r:RP):Option (List CV):=
 match r.src with
 |.tmp t=>match dN st t with
  |.agg cs=>bif r.agg then some cs else none
  |.one c=>bif r.agg then none else some [c]
  |.p8 _=>none
 |.cell t=>match dN st t with
  |.one (.ptr b g off)=>bif Nat.beq off 0 then fV st b g else none
  |_=>none
 |.ptr t=>match dN st t with
  |.one (.ptr b g off)=>bif Nat.beq off 0 then fV st b g else none
  |_=>none
def RP.lab (st:St) (r:RP):List (Option Lb):=
 match r.src with
 |.ptr t=>(match dN st t with | .one (.ptr b _ _)=>[some (.box b)] | _=>[])
 |_=>[]
def Hp (st:St):(rs:List RP)→(t:RT)→aO t→Option (aO (ew rs t)×List (Option Lb)×List (Nat×Nat))
 | [],_,y=>some (y,[],[])
 |r::rs,t,y=>(r.cells st).bind fun cs=>(Hp st rs t y).bind fun q=>(nA st r.ps (ew rs t) cs q.1).map fun p=>(p.1,r.lab st++(p.2.1++q.2.1),p.2.2++q.2.2)
def o7 (st:St) (i:Nat):(j:Nat)→(ps:List OP)→(t:RT)→aO t→Option (aO (vk ps t)×List Lb)
 |_,[],_,y=>some (y,[])
 |j,.own r d::ps,t,y=>(o7 st i (j+1) ps t y).bind fun q=>(cO st i j 1).bind fun A=>bif A.own&&A.md.is d then (ez r A.xs).map fun xs=>((xs,q.1),.sp i j::q.2) else none
 |j,.int _::ps,t,y=>o7 st i (j+1) ps t y
 |j,.bool::ps,t,y=>o7 st i (j+1) ps t y
 |j,.str::ps,t,y=>o7 st i (j+1) ps t y
 |j,.shr _::ps,t,y=>o7 st i (j+1) ps t y
 |j,.nV _::ps,t,y=>o7 st i (j+1) ps t y
 |j,.fn _ _::ps,t,y=>o7 st i (j+1) ps t y
def xa (st:St):(i:Nat)→(ps:List AP)→Option (aO (cG ps)×List Lb×List (Nat×Nat))
 |_,[]=>some ((),[],[])
 |i,.val _ _::l=>xa st (i+1) l
 |i,.io r d::l=>(xa st (i+1) l).bind fun q=>(FU st i (.io r d) (cG l) (.one (.ref i 0 1 .full)) q.1).map fun p=>(p.1,p.2.1++q.2.1,p.2.2++q.2.2)
 |i,.box _ ps::l=>(xa st (i+1) l).bind fun q=>(FU st i (.box true ps) (cG l) (.one (.ptr i 1 0)) q.1).map fun p=>(p.1,p.2.1++q.2.1,p.2.2++q.2.2)
 |i,.dZ ps::l=>(xa st (i+1) l).bind fun q=>(o7 st i 0 ps (cG l) q.1).map fun p=>(p.1,p.2++q.2.1,q.2.2)
def EL (rs:List RP) (ps:List AP):Ex→St→Option (aO (ew rs (cG ps)))
 |.exit _,_=>none
 |_,st=>(xa st 0 ps).bind fun x=>(Hp st rs (cG ps) x.1).bind fun q=>bif ye (dO q.2.1++x.2.1)&&apart (dO q.2.1++x.2.1) (q.2.2++x.2.2) then some q.1 else none
def RP.rv (r:RP) (os:List OV):RV:=
 match r.src with
 |.ptr _=>.ptr os
 |_=>match r.agg,os with
  |false,[o]=>.one o
  |_,os=>.agg os
def iR:(rs:List RP)→(t:RT)→aO (ew rs t)→List RV×aO t
 | [],_,x=>([],x)
 |r::rs,t,x=>(r.rv (fK r.ps (ew rs t) x).1::(iR rs t (fK r.ps (ew rs t) x).2).1,(iR rs t (fK r.ps (ew rs t) x).2).2)
def pP:(ps:List OP)→(t:RT)→aO (vk ps t)→List (Option nu)×aO t
 | [],_,x=>([],x)
 |.own r d::ps,t,x=>(some { r:=r,own:=true,xs:=x.1,md:=d }::(pP ps t x.2).1,(pP ps t x.2).2)
 |.int _::ps,t,x=>(none::(pP ps t x).1,(pP ps t x).2)
 |.bool::ps,t,x=>(none::(pP ps t x).1,(pP ps t x).2)
 |.str::ps,t,x=>(none::(pP ps t x).1,(pP ps t x).2)
 |.shr _::ps,t,x=>(none::(pP ps t x).1,(pP ps t x).2)
 |.nV _::ps,t,x=>(none::(pP ps t x).1,(pP ps t x).2)
 |.fn _ _::ps,t,x=>(none::(pP ps t x).1,(pP ps t x).2)
def pD:(ps:List AP)→aO (cG ps)→List XV
 | [],_=>[]
 |.val _ _::l,x=>pD l x
 |.io r d::l,x=>.io { r:=r,own:=true,xs:=x.1,md:=d }::pD l x.2
 |.box _ ps::l,x=>.box (fK ps (cG l) x).1::pD l (fK ps (cG l) x).2
 |.dZ ps::l,x=>.dZ (pP ps (cG l) x).1::pD l (pP ps (cG l) x).2
def o8 (ps:List AP) (rs:List RP) (t:aO (aG (ps.map some))→Option (aO (ew rs (cG ps)))):Al:=fun ga=>
 match ib ps ga with
 |some x=>some { r:=ew rs (cG ps),o:=t x,res:=fun y=>{ outs:=(iR rs (cG ps) y).1,exts:=pD ps (iR rs (cG ps) y).2 } }
 |none=>none
theorem lW {st:St} {i:Nat}:(ps:List OP)→(j:Nat)→(t:RT)→(y:aO t)→{x:aO (vk ps t)}→{u:List Lb}→o7 st i j ps t y=some (x,u)→(pP ps t x).2=y∧(∀l∈u,∃k,l=.sp i k)∧
  ∀(k:Nat) (r:RT) (d:Md),ps[k]?=some (.own r d)→∃A xs,cO st i (j+k) 1=some A∧A.own=true∧A.md=d∧ez r A.xs=some xs∧nth (pP ps t x).1 k=some (some { r:=r,own:=true,xs:=xs,md:=d })∧.sp i (j+k)∈u
 | [],j,t,y,x,u,h=>by
  injection h with h;injection h with e1 e2;subst e1 e2;exact ⟨rfl,by simp,fun k r d hk=>by simp at hk⟩
 |.own r d::ps,j,t,y,x,u,h=>by
  unfold o7 at h;obtain ⟨q,hq,h⟩:=Option.bind_eq_some_iff.1 h;obtain ⟨A,hA,h⟩:=Option.bind_eq_some_iff.1 h;obtain ⟨ho,h⟩:=bJ h;rw [Bool.and_eq_true] at ho;obtain ⟨xs,Z8,h⟩:=Option.map_eq_some_iff.1 h;injection h with e1 e2;subst e1 e2;obtain ⟨z,us⟩:=q;obtain ⟨g1,g2,g3⟩:=lW ps (j+1) t y hq;refine ⟨g1,fun l hl => ?_,fun k r' d' hk => ?_⟩
  ·rcases List.mem_cons.1 hl with rfl | hl
   ·exact ⟨j,rfl⟩
   ·exact g2 l hl
  ·cases k with
   |zero=>
    simp only [List.getElem?_cons_zero,Option.some.injEq,OP.own.injEq] at hk;obtain ⟨rfl,_⟩:=hk;exact ⟨A,xs,hA,ho.1,Md.ya.1 ho.2,Z8,rfl,List.mem_cons_self⟩
   |succ k=>
    obtain ⟨A',xs',k1,k2,kd,k3,k4,k5⟩:=g3 k r' d' (by simpa using hk);rw [show j+1+k=j+(k+1) by omega] at k1 k5;exact ⟨A',xs',k1,k2,kd,k3,k4,List.mem_cons_of_mem _ k5⟩
 |.int _::ps,j,t,y,x,u,h=>mI (lW ps (j+1) t y h) (by simp) (fun k=>rfl)
 |.bool::ps,j,t,y,x,u,h=>mI (lW ps (j+1) t y h) (by simp) (fun k=>rfl)
 |.str::ps,j,t,y,x,u,h=>mI (lW ps (j+1) t y h) (by simp) (fun k=>rfl)
 |.shr _::ps,j,t,y,x,u,h=>mI (lW ps (j+1) t y h) (by simp) (fun k=>rfl)
 |.nV _::ps,j,t,y,x,u,h=>mI (lW ps (j+1) t y h) (by simp) (fun k=>rfl)
 |.fn _ _::ps,j,t,y,x,u,h=>mI (lW ps (j+1) t y h) (by simp) (fun k=>rfl)
where
 mI {st:St} {i j:Nat} {p:OP} {ps:List OP} {D:Type} {y z:D} {L L':List (Option nu)} {u:List Lb} (h:z=y∧(∀l∈u,∃k,l=.sp i k)∧∀(k:Nat) (r:RT) (d:Md),ps[k]?=some (.own r d)→∃A xs,cO st i (j+1+k) 1=some A∧A.own=true∧A.md=d∧ez r A.xs=some xs∧nth L k=some (some { r:=r,own:=true,xs:=xs,md:=d })∧.sp i (j+1+k)∈u)
   (hp:∀r d,p≠.own r d) (hL:∀k,nth L' (k+1)=nth L k):z=y∧(∀l∈u,∃k,l=.sp i k)∧∀(k:Nat) (r:RT) (d:Md),(p::ps)[k]?=some (.own r d)→∃A xs,cO st i (j+k) 1=some A∧A.own=true∧A.md=d∧ez r A.xs=some xs∧nth L' k=some (some { r:=r,own:=true,xs:=xs,md:=d })∧.sp i (j+k)∈u:=by
  obtain ⟨h1,h2,h3⟩:=h;refine ⟨h1,h2,fun k r d hk => ?_⟩
  cases k with
  |zero=>
   simp only [List.getElem?_cons_zero,Option.some.injEq] at hk;exact absurd hk (hp r d)
  |succ k=>
   obtain ⟨A',xs',k1,k2,kd,k3,k4,k5⟩:=h3 k r d (by simpa using hk);rw [show j+1+k=j+(k+1) by omega] at k1 k5;exact ⟨A',xs',k1,k2,kd,k3,by rw [hL];exact k4,k5⟩
theorem J8 {st:St}:(ps:List OP)→(t:RT)→(cs:List CV)→(y:aO t)→{x:aO (oZ ps t)}→{u:List (Option Lb)}→{r:List (Nat×Nat)}→nA st ps t cs y=some (x,u,r)→u.length=ps.length∧cs.length=ps.length∧(fK ps t x).1.length=ps.length
 | [],t,[],y,x,u,r,h=>by
  injection h with h;injection h with e1 e2;injection e2 with e2 e3;subst e1 e2 e3;exact ⟨rfl,rfl,rfl⟩
 | [],t,_::_,y,x,u,r,h=>by simp [nA] at h
 |_::_,t,[],y,x,u,r,h=>by simp [nA] at h
 |p::ps,t,c::cs,y,x,u,r,h=>by
  unfold nA at h
  cases hc:lj st p.re c with
  |none=>simp [hc] at h
  |some q1=>
   obtain ⟨o,u1,r1⟩:=q1
   cases hq:nA st ps t cs y with
   |none=>simp [hc,hq] at h
   |some q2=>
    obtain ⟨z,us,rs⟩:=q2;simp only [hc,hq] at h
    cases ho:vj p o with
    |none=>simp [ho] at h
    |some a1=>
     simp only [ho] at h;injection h with h;injection h with e1 e2;injection e2 with e2 e3;subst e1 e2 e3;obtain ⟨g1,g2,g3⟩:=J8 ps t cs y hq;exact ⟨by simp [g1],by simp [g2],by simp [fK,g3]⟩
def VK (T:oU) (fr:Array Value):ResultVar→RP→Prop
 |.tmp t,r=>r.src=.tmp t∨r.src=.ptr t
 |.cell t ty,r=>r.src=.cell t∧T.cells ty=some r.ps.length∧T.agg ty=r.agg
def Hq (tm:Array Value):ResultVar→Sem Value
 |.tmp t=>pure (tm.getD t undef)
 |.cell a t=>do loadVar t (←asAddr (tm.getD a undef))
theorem RP.VL {P:Program} {T:oU} (hT:jZ P T) {w0:World} {mu:Mu} {c:Cz} {st:St} {a:Act} {w:World} (h:Rel w0 mu c st a w) {r:RP} {rv:ResultVar} (hr:VK T a.tmps rv r) {cs:List CV} (hc:r.cells st=some cs) (hn:cs.length=r.ps.length) :
  ∃vs v,iQ c st w cs vs∧(Hq a.tmps rv).run P w=.ok v w∧(((∀t,r.src≠.ptr t)∧((r.agg=true∧v=.agg vs.toArray)∨(r.agg=false∧(vs=[v]))))∨
   (∃t b ty us,r.src=.ptr t∧r.lab st=[some (.box b)]∧v=.pointer (some ⟨c.bx b,0,none⟩)∧c.own (c.bx b)=some (.box b)∧w.heap[c.bx b]?=some (.cells us ty (0,0))∧vs=us.toList)):=by
 unfold RP.cells at hc
 cases rv with
 |tmp t=>
  rcases (hr:r.src=.tmp t∨r.src=.ptr t) with hs | hs
  case inr=>
   rw [hs] at hc;have xD:=h.jj t;simp only at hc
   cases hv:dN st t with
   |p8 _=>rw [hv] at hc;cases hc
   |agg l=>rw [hv] at hc;cases hc
   |one x=>
    cases x with
    |ptr b g off=>
     rw [hv] at hc xD;obtain ⟨ho,hb⟩:=bJ hc;have ho:=Nat.eq_of_beq_eq_true ho;subst ho;obtain ⟨sl,k1,k2,k3⟩:=ka hb;obtain ⟨q1,vs,ty',q2,q3⟩:=h.boxes b sl cs k1 k3;have e:a.tmps.getD t undef=.pointer (some ⟨c.bx b,0,none⟩):=xD.2.2 cs hb;refine ⟨vs.toList,a.tmps.getD t undef,q3,rfl,.inr ⟨t,b,ty',vs,hs,?_,e,q1,q2,rfl⟩⟩;unfold RP.lab;rw [hs];simp only [hv]
    |_=>rw [hv] at hc;cases hc
  rw [hs] at hc;have xD:=h.jj t;simp only at hc
  cases hv:dN st t with
  |p8 _=>rw [hv] at hc;cases hc
  |agg l=>
   rw [hv] at hc xD;obtain ⟨Rq,hc1⟩:=bJ hc
   cases hc1
   obtain ⟨vs,e,hl⟩:=xD;exact ⟨vs.toList,a.eval (.tmp t),hl,rfl,.inl ⟨fun t' e'=>(by rw [hs] at e';cases e'),.inl ⟨Rq,by rw [e]⟩⟩⟩
  |one x=>
   rw [hv] at hc xD;simp only at hc
   cases Rq:r.agg with
   |true=>rw [Rq] at hc;cases hc
   |false=>
    rw [Rq] at hc
    cases hc
    refine ⟨[a.eval (.tmp t)],a.eval (.tmp t),⟨rfl,fun i y z hy hz => ?_⟩,rfl,.inl ⟨fun t' e'=>(by rw [hs] at e';cases e'),.inr ⟨rfl,rfl⟩⟩⟩
    cases i with
    |zero=>simp at hy hz;subst hy hz;exact xD
    |succ i=>simp at hy
 |cell t ty=>
  obtain ⟨hs,h1,h2⟩:=hr;rw [hs] at hc;have xD:=h.jj t;simp only at hc
  cases hv:dN st t with
  |p8 _=>rw [hv] at hc;cases hc
  |agg l=>rw [hv] at hc;cases hc
  |one x=>
   cases x with
   |ptr b g off=>
    rw [hv] at hc xD;obtain ⟨ho,hb⟩:=bJ hc;have ho:=Nat.eq_of_beq_eq_true ho;subst ho;obtain ⟨sl,k1,k2,k3⟩:=ka hb;obtain ⟨q1,vs,ty',q2,q3⟩:=h.boxes b sl cs k1 k3;have e:a.tmps.getD t undef=.pointer (some ⟨c.bx b,0,none⟩):=xD.2.2 cs hb;have abf:w.rangeAt (c.bx b) 0 vs.toList:=by
     have:=FI (off:=0) q2 vs.toList.length
     rwa [List.drop_zero,List.take_length] at this
    have hlen:vs.toList.length=r.ps.length:=by rw [←q3.1,hn]
    have ve:=wD (P:=P) hT h1 w (c.bx b) 0 vs.toList abf hlen;refine ⟨vs.toList,valOf (T.agg ty) vs.toList,q3,?_,.inl ⟨fun t' e'=>(by rw [hs] at e';cases e'),?_⟩⟩
    ·simp [Hq,e,asAddr,Sem.run_bind,ve]
    ·rw [h2]
     cases Rq:r.agg with
     |true=>exact .inl ⟨rfl,by simp [valOf]⟩
     |false=>
      obtain ⟨_,_,_,Sn⟩:=hT.agg ty _ h1;have h3:=Sn (by rw [h2,Rq]);refine .inr ⟨rfl,?_⟩;have:vs.toList.length=1:=by rw [hlen,h3]
      cases Gt:vs.toList with
      |nil=>rw [Gt] at this;cases this
      |cons x l=>cases l with
       |nil=>rfl
       |cons _ _=>rw [Gt] at this;simp at this
   |_=>rw [hv] at hc;cases hc
end Go.TM
