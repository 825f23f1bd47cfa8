/- Library functions that hand back an array of their own; rows of several cells copied. -/
import Derived.Test.YtcjjcfjlnhoaoaaGreatTm4
import Derived.Shelf.Spec.SlicesInsertGrow
import Derived.Deep.Upon
namespace Go.TM
open Go Go.RowKit Go.Proofs Go.Lib
def AP.isV:AP→Bool
 |.val _ _=>true
 |_=>false
theorem po {P:Program} (w:World) (dT sT ty elem sz:Nat) (b o SV adD:Nat) (a:Addr) (xN Et:Nat) (cs:List Value)
  (hu:P.underlying dT=some (.slice elem)) (hs:(P.info? elem).map (·.size)=some sz) (hn:cs.length=Nat.min xN SV*sz)
  (SE:∀j v,cs[j]?=some v→w.cell? (a.add j)=some v) (hc:∀j,j<cs.length→(w.cell? ⟨b,o+j,none⟩).isSome=true) (hf:∀j,j<cs.length→w.frozen? ⟨b,o+j,none⟩=false) (h1:∀v∈cs,v.oneCell'=true) :
  (Builtin.copy_ #[dT,sT] ty #[.slice (some ⟨b,o,none⟩) SV adD,.slice (some a) xN Et]).run P w=.ok (goInt (Nat.min xN SV)) (w.setCells b o cs):=by
 have hl:=run_loadCells_list (P:=P) w a cs SE;have re:=run_storeCells_cells (P:=P) b o cs 0 w (by simpa using hc) (by simpa using hf) h1
 cases hq:P.info? elem with
 |none=>simp [hq] at hs
 |some i=>
  have hi:i.size=sz:=by simpa [hq] using hs
  simp [Builtin.copy_,run_underlying hu,Builtin.lenOf,Builtin.firstCells,sizeOf,typeInfo,hq,hi,←hn,hl,re]
theorem DO (X:World) (B a:Nat) (V:List Value) (d:Nat) (D:List Value) (hv:∀j,j<V.length→(X.cell? ⟨B,a+j,none⟩).isSome=true) (hd:∀j,j<D.length→(X.cell? ⟨B,d+j,none⟩).isSome=true) (ajt:a+V.length≤d∨d+D.length≤a) :
  (∀(j:Nat) (v:Value),V[j]?=some v→((X.setCells B a V).setCells B d D).cell? ⟨B,a+j,none⟩=some v)∧(∀(j:Nat) (v:Value),D[j]?=some v→((X.setCells B a V).setCells B d D).cell? ⟨B,d+j,none⟩=some v)∧
  (∀k,(k<a∨a+V.length≤k)→(k<d∨d+D.length≤k)→((X.setCells B a V).setCells B d D).cell? ⟨B,k,none⟩=X.cell? ⟨B,k,none⟩):=by
 refine ⟨fun j v h => ?_,fun j v h => ?_,fun k h1 h2 => ?_⟩
 ·obtain ⟨hj,e⟩:=List.getElem?_eq_some_iff.1 h;rw [World.cell?_setCells_out B D d _ ⟨B,a+j,none⟩ (fun _ _=>by show a+j<d∨d+D.length≤a+j;omega),World.cell?_setCells_in B V a X hv j hj,e]
 ·obtain ⟨hj,e⟩:=List.getElem?_eq_some_iff.1 h;rw [World.cell?_setCells_in B D d _ (fun i hi=>isSome_setCells B V a X hv _ (hd i hi)) j hj,e]
 ·rw [World.cell?_setCells_out B D d _ ⟨B,k,none⟩ (fun _ _=>h2),World.cell?_setCells_out B V a _ ⟨B,k,none⟩ (fun _ _=>h1)]
theorem heap_setCell {w:World} {b o:Nat} {v:Value} {cur:Array Value} {ty:TypeId} (h:w.heap[b]?=some (.cells cur ty (0,0))) :
  ∃cur',(w.setCell ⟨b,o,none⟩ v).heap[b]?=some (.cells cur' ty (0,0))∧cur'.size=cur.size:=by
 unfold World.setCell;simp only [Array.getElem?_modify,if_true,h,Option.map_some];exact ⟨_,rfl,by simp⟩
theorem mJ {b:Nat} {ty:TypeId}:(vs:List Value)→(o:Nat)→{w:World}→{cur:Array Value}→w.heap[b]?=some (.cells cur ty (0,0))→
  ∃cur',(w.setCells b o vs).heap[b]?=some (.cells cur' ty (0,0))∧cur'.size=cur.size
 | [],_,_,cur,h=>⟨cur,h,rfl⟩
 |v::r,o,w,cur,h=>by
  obtain ⟨c1,h1,s1⟩:=heap_setCell (o:=o) (v:=v) h;obtain ⟨c2,h2,s2⟩:=mJ r (o+1) h1;exact ⟨c2,h2,s2.trans s1⟩
theorem mK {b:Nat}:(vs:List Value)→(o:Nat)→(w:World)→(w.setCells b o vs).os=w.os∧(w.setCells b o vs).tape=w.tape∧(w.setCells b o vs).output=w.output∧(w.setCells b o vs).heap.size=w.heap.size
 | [],_,_=>⟨rfl,rfl,rfl,rfl⟩
 |v::r,o,w=>by
  obtain ⟨h1,h2,h3,h4⟩:=mK r (o+1) (w.setCell ⟨b,o,none⟩ v);have hs:(w.setCell ⟨b,o,none⟩ v).heap.size=w.heap.size:=by simp [World.setCell]
  exact ⟨h1,h2,h3,h4.trans hs⟩
theorem bI.cut {w:World} {ok:Nat→Prop} {r:RT}:(i:Nat)→(vs:List Value)→(xs:List (ar r))→bI w ok r vs xs→bI w ok r (vs.take (i*r.width)) (xs.take i)∧bI w ok r (vs.drop (i*r.width)) (xs.drop i)
 |0,vs,xs,h=>by
  rw [Nat.zero_mul,List.take_zero,List.take_zero,List.drop_zero,List.drop_zero];exact ⟨rfl,h⟩
 |i+1,vs,[],h=>by
  have h:vs=[]:=h;subst h;simp only [List.take_nil,List.drop_nil];exact ⟨rfl,rfl⟩
 |i+1,vs,x::xs,h=>by
  obtain ⟨l1,l2,e,h1,h2⟩:=h;subst e;have hl:l1.length=r.width:=by
   have:=bI.length l1 [x] (bI.one h1);simpa using this
  obtain ⟨k1,k2⟩:=bI.cut i l2 xs h2;have e:(i+1)*r.width=l1.length+i*r.width:=by rw [hl,Nat.add_mul];omega
  rw [e,List.take_length_add_append,List.drop_length_add_append];exact ⟨⟨l1,_,rfl,h1,k1⟩,k2⟩
def Cz.lay (c:Cz) (b:Nat) (l:Lb):Cz:={ c with own:=fun b'=>if b'=b then some l else c.own b' }
theorem Ir {P:Program} {f:FuncId} {ps:List AP} {q:OP} {t:ar (aE (ps.map some))→Option (ar (dq [{ src:=.tmp 0,agg:=false,ps:=[q] }] (ck ps)))} (Nh:ck ps=.nil) (p7:ps.all AP.isV=true) (Qa:∃fn,P.funcs[f]?=some fn∧(fn.name == "runtime.NumGoroutine")=false∧fn.body.isNone=false)
  (h:∀(c:Cz) (w:World) (mu:Mu) (args:Array Value) (x:ar (aE (ps.map some))) y,Handed c w mu→ps.length=args.size→(∀k av,(da (ps.map some) x)[k]?=some (some av)→∃v,args.toList[k]?=some v∧sb c w k (fun _=>.nil) av v)→t x=some y→
   Calls P f args w fun e w'=>∃v,e=.returned v∧∃c',K0 w mu c' w'∧bo c' w' .gO 0 [q.ov y.1] [v]):th P f (qw ps [{ src:=.tmp 0,agg:=false,ps:=[q] }] t):=by
 refine ⟨?_,Qa⟩;intro c w mu lc dL args A y hH hA hs ho;unfold qw at hs
 cases hx:eR ps dL with
 |none=>rw [hx] at hs;cases hs
 |some x=>
  rw [hx] at hs;simp only [Option.some.injEq] at hs;subst hs;have hty:t x=some y:=ho;obtain ⟨l1,l2,hold⟩:=zg ps 0 dL args.toList hx hA;have GB:∀(k:Nat) (av:AV),(da (ps.map some) x)[k]?=some (some av)→∃(ag:Bool) (os:List OV),av=AV.val ag os:=by
   have key:∀(l:List AP) (z:ar (aE (l.map some))),l.all AP.isV=true→∀(k:Nat) (av:AV),(da (l.map some) z)[k]?=some (some av)→∃(ag:Bool) (os:List OV),av=AV.val ag os:=by
    intro l
    induction l with
    |nil=>
     intro z _ k av hk;have hk:([]:List (Option AV))[k]?=some (some av):=hk;simp at hk
    |cons p l ih=>
     intro z hl k av hk;rw [List.all_cons,Bool.and_eq_true] at hl
     cases k with
     |zero=>
      have hk:some (some (p.av (aE (l.map some)) z).1)=some (some av):=hk;simp only [Option.some.injEq] at hk;subst hk
      cases p with
      |val ag qs=>exact ⟨ag,_,rfl⟩
      |_=>cases hl.1
     |succ k=>exact ih _ hl.2 k av hk
   exact key ps x p7
  refine (h c w mu args x y hH (by rw [l2];simp) (fun k av hk => ?_) hty).mono fun e w' ⟨v,he,c',hb,hv⟩ => ?_
  ·obtain ⟨v,h1,h2⟩:=hold k av hk;rw [Nat.zero_add] at h2;refine ⟨v,h1,?_⟩;obtain ⟨ag,os,rfl⟩:=GB k av hk
   cases ag<;>exact h2
  ·refine ⟨v,he,c',hb,.inl ⟨.one (q.ov y.1),rfl,v,[],rfl,hv,rfl⟩,?_⟩;have hlen:dL.length=args.toList.length:=by rw [←l1,l2]
   have key:∀(l:List AP) (ws:List AV) (z:ar (aE (l.map some))) (u:ar (ck l)) (vs:List Value) (i:Nat),l.all AP.isV=true→eR l ws=some z→ws.length=vs.length→iI c' w' lc i ws vs (nc l u):=by
    intro l
    induction l with
    |nil=>
     intro ws z u vs i _ hc _
     cases ws with
     |nil=>rfl
     |cons _ _=>simp [eR] at hc
    |cons p l ih=>
     intro ws z u vs i hl hc hn;rw [List.all_cons,Bool.and_eq_true] at hl
     cases ws with
     |nil=>simp [eR] at hc
     |cons a ws=>
      cases vs with
      |nil=>simp at hn
      |cons v vs=>
       unfold eR at hc
       cases WA:eR l ws with
       |none=>simp [WA] at hc
       |some z'=>
        simp only [WA] at hc
        cases p with
        |val ag qs=>
         cases a with
         |val ag' os=>exact ih ws z' u vs (i+1) hl.2 WA (by simpa using hn)
         |_=>cases ag<;>cases hc
        |_=>cases hl.1
   exact key ps dL x _ args.toList 0 p7 hx hlen
theorem xo {c:Cz} {w w':World} {mu:Mu} {r:RT} {xs:List (ar r)} {vs:List Value} {B o cp:Nat} {cur:Array Value} {te:TypeId} {v:Value} (hH:Handed c w mu) (hB:w.heap.size≤B∨mu.m B)
  (pY:∀k,k<w.heap.size→k≠B→w'.heap[k]?=w.heap[k]?) (hk:w'.os=w.os∧w'.tape=w.tape∧w'.output=w.output∧w.heap.size≤w'.heap.size)
  (h1:v.oneCell'=true) (h2:gm (.at B o cp) r.width 0 xs.length v) (h3:xs.length≤cp) (h4:w'.heap[B]?=some (.cells cur te (0,0))) (h5:o+cp*r.width≤cur.size)
  (hr:w'.rangeAt B o vs) (hv:bI w c.ok r vs xs):∃c',K0 w mu c' w'∧bo c' w' .gO 0 [.own { r:=r,own:=true,xs:=xs }] [v]:=by
 have HX:B<w'.heap.size:=(Array.getElem?_eq_some_iff.1 h4).1;have gr:∀k,k<w.heap.size→c.ok k→k≠B:=by
  rintro k hk gP rfl
  rcases hB with hB | hB
  ·omega
  ·obtain ⟨l,hl,_⟩:=(hH.m k).1 hB;unfold Cz.ok at gP;rw [hl] at gP;cases gP
 have re:iH w w' c.ok (c.lay B (.gO 0)).ok:=⟨hk.2.2.2,fun k zO gP=>pY k zO (gr k zO gP),fun k zO gP=>by
  unfold Cz.ok Cz.lay;simp only;rw [if_neg (gr k zO gP)];exact gP⟩
 refine ⟨c.lay B (.gO 0),⟨fun b l hb => ?_,fun b dG hb => ?_,hk,fun k zO hm=>pY k zO (fun e => ?_),fun b l hb=>⟨Nat.lt_of_lt_of_le (hH.rs b l hb).1 hk.2.2.2,.inr (.inr (hH.rs b l hb).2)⟩⟩,v,[],rfl,⟨.at B o cp,h1,h2,rfl,if_pos rfl,h3,⟨cur,te,h4,h5⟩,(bF.sh rfl).2 (rZ _ vs xs (bI.stays re _ _ hv) hr)⟩,rfl⟩
 ·have hb:(if b=B then some (Lb.gO 0) else c.own b)=some l:=hb
  by_cases e:b=B
  ·subst e;exact ⟨HX,hB.elim (fun h=>.inr (.inl h)) (fun h=>.inr (.inr h))⟩
  ·rw [if_neg e] at hb;exact ⟨Nat.lt_of_lt_of_le (hH.lt b l hb) hk.2.2.2,(hH.lb b l hb).imp id fun hh=>.inr ((hH.m b).2 ⟨l,hb,hh⟩)⟩
 ·have hb:(if b=B then some (Lb.gO 0) else c.own b)=none:=hb
  by_cases e:b=B
  ·rw [if_pos e] at hb;cases hb
  ·rw [if_neg e] at hb;exact .inr ((hH.ok b).2 hb)
 ·subst e;rcases hB with hB | hB
  ·omega
  ·exact hm hB
theorem cm.cut {w:World} {P:List Nat→Nat→Prop} {r:RT}:(i i0:Nat)→(vs:List Value)→(xs:List (ar r))→cm w P r i0 vs xs→cm w P r i0 (vs.take (i*r.width)) (xs.take i)∧cm w P r (i0+i) (vs.drop (i*r.width)) (xs.drop i)
 |0,i0,vs,xs,h=>by
  rw [Nat.zero_mul,List.take_zero,List.take_zero,List.drop_zero,List.drop_zero];exact ⟨rfl,h⟩
 |i+1,i0,vs,[],h=>by
  have h:vs=[]:=h;subst h;simp only [List.take_nil,List.drop_nil];exact ⟨rfl,rfl⟩
 |i+1,i0,vs,x::xs,h=>by
  obtain ⟨l1,l2,e,h1,h2⟩:=h;subst e;have hl:l1.length=r.width:=cY.length r _ _ l1 x h1;obtain ⟨k1,k2⟩:=cm.cut i (i0+1) l2 xs h2;have e:(i+1)*r.width=l1.length+i*r.width:=by rw [hl,Nat.add_mul];omega
  rw [e,List.take_length_add_append,List.drop_length_add_append,show i0+(i+1)=i0+1+i by omega];exact ⟨⟨l1,_,rfl,h1,k1⟩,k2⟩
end Go.TM
