/- Library functions that hand back an array of their own; rows of several cells copied. -/
import Derived.Test.YtlgnmloddedbaaaGreatTm4
import Derived.Shelf.Spec.SlicesInsertGrow
import Derived.Deep.Upon
namespace Go.TM
open Go Go.RowKit Go.Proofs Go.Lib
def AP.isV:AP→Bool
 |.val _ _=>true
 |_=>false
theorem oN {P:Program} (w:World) (dT sT ty elem sz:Nat) (b o WH ahH:Nat) (a:Addr) (Ag Hu:Nat) (cs:List Value)
  (hu:P.underlying dT=some (.slice elem)) (hs:(P.info? elem).map (·.size)=some sz) (hn:cs.length=Nat.min Ag WH*sz)
  (Q3:∀j v,cs[j]?=some v→w.cell? (a.add j)=some v) (hc:∀j,j<cs.length→(w.cell? ⟨b,o+j,none⟩).isSome=true) (hf:∀j,j<cs.length→w.frozen? ⟨b,o+j,none⟩=false) (h1:∀v∈cs,v.oneCell'=true) :
  (Builtin.copy_ #[dT,sT] ty #[.slice (some ⟨b,o,none⟩) WH ahH,.slice (some a) Ag Hu]).run P w=.ok (goInt (Nat.min Ag WH)) (w.setCells b o cs):=by
 have hl:=run_loadCells_list (P:=P) w a cs Q3;have pz:=run_storeCells_cells (P:=P) b o cs 0 w (by simpa using hc) (by simpa using hf) h1
 cases hq:P.info? elem with
 |none=>simp [hq] at hs
 |some i=>
  have hi:i.size=sz:=by simpa [hq] using hs
  simp [Builtin.copy_,run_underlying hu,Builtin.lenOf,Builtin.firstCells,sizeOf,typeInfo,hq,hi,←hn,hl,pz]
theorem BV (X:World) (B a:Nat) (V:List Value) (d:Nat) (D:List Value) (hv:∀j,j<V.length→(X.cell? ⟨B,a+j,none⟩).isSome=true) (hd:∀j,j<D.length→(X.cell? ⟨B,d+j,none⟩).isSome=true) (aoy:a+V.length≤d∨d+D.length≤a) :
  (∀(j:Nat) (v:Value),V[j]?=some v→((X.setCells B a V).setCells B d D).cell? ⟨B,a+j,none⟩=some v)∧(∀(j:Nat) (v:Value),D[j]?=some v→((X.setCells B a V).setCells B d D).cell? ⟨B,d+j,none⟩=some v)∧
  (∀k,(k<a∨a+V.length≤k)→(k<d∨d+D.length≤k)→((X.setCells B a V).setCells B d D).cell? ⟨B,k,none⟩=X.cell? ⟨B,k,none⟩):=by
 refine ⟨fun j v h => ?_,fun j v h => ?_,fun k h1 h2 => ?_⟩
 ·obtain ⟨hj,e⟩:=List.getElem?_eq_some_iff.1 h;rw [World.cell?_setCells_out B D d _ ⟨B,a+j,none⟩ (fun _ _=>by show a+j<d∨d+D.length≤a+j;omega),World.cell?_setCells_in B V a X hv j hj,e]
 ·obtain ⟨hj,e⟩:=List.getElem?_eq_some_iff.1 h;rw [World.cell?_setCells_in B D d _ (fun i hi=>isSome_setCells B V a X hv _ (hd i hi)) j hj,e]
 ·rw [World.cell?_setCells_out B D d _ ⟨B,k,none⟩ (fun _ _=>h2),World.cell?_setCells_out B V a _ ⟨B,k,none⟩ (fun _ _=>h1)]
theorem heap_setCell {w:World} {b o:Nat} {v:Value} {cur:Array Value} {ty:TypeId} (h:w.heap[b]?=some (.cells cur ty (0,0))) :
  ∃cur',(w.setCell ⟨b,o,none⟩ v).heap[b]?=some (.cells cur' ty (0,0))∧cur'.size=cur.size:=by
 unfold World.setCell;simp only [Array.getElem?_modify,if_true,h,Option.map_some];exact ⟨_,rfl,by simp⟩
theorem ja {b:Nat} {ty:TypeId}:(vs:List Value)→(o:Nat)→{w:World}→{cur:Array Value}→w.heap[b]?=some (.cells cur ty (0,0))→
  ∃cur',(w.setCells b o vs).heap[b]?=some (.cells cur' ty (0,0))∧cur'.size=cur.size
 | [],_,_,cur,h=>⟨cur,h,rfl⟩
 |v::r,o,w,cur,h=>by
  obtain ⟨c1,h1,s1⟩:=heap_setCell (o:=o) (v:=v) h;obtain ⟨c2,h2,s2⟩:=ja r (o+1) h1;exact ⟨c2,h2,s2.trans s1⟩
theorem jb {b:Nat}:(vs:List Value)→(o:Nat)→(w:World)→(w.setCells b o vs).os=w.os∧(w.setCells b o vs).tape=w.tape∧(w.setCells b o vs).output=w.output∧(w.setCells b o vs).heap.size=w.heap.size
 | [],_,_=>⟨rfl,rfl,rfl,rfl⟩
 |v::r,o,w=>by
  obtain ⟨h1,h2,h3,h4⟩:=jb r (o+1) (w.setCell ⟨b,o,none⟩ v);have hs:(w.setCell ⟨b,o,none⟩ v).heap.size=w.heap.size:=by simp [World.setCell]
  exact ⟨h1,h2,h3,h4.trans hs⟩
theorem bo.cut {w:World} {ok:Nat→Prop} {r:RT}:(i:Nat)→(vs:List Value)→(xs:List (aw r))→bo w ok r vs xs→bo w ok r (vs.take (i*r.width)) (xs.take i)∧bo w ok r (vs.drop (i*r.width)) (xs.drop i)
 |0,vs,xs,h=>by
  rw [Nat.zero_mul,List.take_zero,List.take_zero,List.drop_zero,List.drop_zero];exact ⟨rfl,h⟩
 |i+1,vs,[],h=>by
  have h:vs=[]:=h;subst h;simp only [List.take_nil,List.drop_nil];exact ⟨rfl,rfl⟩
 |i+1,vs,x::xs,h=>by
  obtain ⟨l1,l2,e,h1,h2⟩:=h;subst e;have hl:l1.length=r.width:=by
   have:=bo.length l1 [x] (bo.one h1);simpa using this
  obtain ⟨k1,k2⟩:=bo.cut i l2 xs h2;have e:(i+1)*r.width=l1.length+i*r.width:=by rw [hl,Nat.add_mul];omega
  rw [e,List.take_length_add_append,List.drop_length_add_append];exact ⟨⟨l1,_,rfl,h1,k1⟩,k2⟩
def Cz.lay (c:Cz) (b:Nat) (l:Lb):Cz:={ c with own:=fun b'=>if b'=b then some l else c.own b' }
theorem EA {P:Program} {f:FuncId} {ps:List AP} {q:OP} {t:aw (aK (ps.map some))→Option (aw (cN [{ src:=.tmp 0,agg:=false,ps:=[q] }] (bC ps)))} (Qm:bC ps=.nil) (pH:ps.all AP.isV=true) (N6:∃fn,P.funcs[f]?=some fn∧(fn.name == "runtime.NumGoroutine")=false∧fn.body.isNone=false)
  (h:∀(c:Cz) (w:World) (mu:Mu) (args:Array Value) (x:aw (aK (ps.map some))) y,Handed c w mu→ps.length=args.size→(∀k av,(ck (ps.map some) x)[k]?=some (some av)→∃v,args.toList[k]?=some v∧sJ c w k (fun _=>.nil) av v)→t x=some y→
   Calls P f args w fun e w'=>∃v,e=.returned v∧∃c',CF w mu c' w'∧a7 c' w' .eF 0 [q.ov y.1] [v]):np P f (kO ps [{ src:=.tmp 0,agg:=false,ps:=[q] }] t):=by
 refine ⟨?_,N6⟩;intro c w mu lc da args A y hH hA hs ho;unfold kO at hs
 cases hx:dY ps da with
 |none=>rw [hx] at hs;cases hs
 |some x=>
  rw [hx] at hs;simp only [Option.some.injEq] at hs;subst hs;have Fq:t x=some y:=ho;obtain ⟨l1,l2,hold⟩:=BN ps 0 da args.toList hx hA;have Jr:∀(k:Nat) (av:AV),(ck (ps.map some) x)[k]?=some (some av)→∃(ag:Bool) (os:List OV),av=AV.val ag os:=by
   have key:∀(l:List AP) (z:aw (aK (l.map some))),l.all AP.isV=true→∀(k:Nat) (av:AV),(ck (l.map some) z)[k]?=some (some av)→∃(ag:Bool) (os:List OV),av=AV.val ag os:=by
    intro l
    induction l with
    |nil=>
     intro z _ k av hk;have hk:([]:List (Option AV))[k]?=some (some av):=hk;simp at hk
    |cons p l ih=>
     intro z hl k av hk;rw [List.all_cons,Bool.and_eq_true] at hl
     cases k with
     |zero=>
      have hk:some (some (p.av (aK (l.map some)) z).1)=some (some av):=hk;simp only [Option.some.injEq] at hk;subst hk
      cases p with
      |val ag qs=>exact ⟨ag,_,rfl⟩
      |_=>cases hl.1
     |succ k=>exact ih _ hl.2 k av hk
   exact key ps x pH
  refine (h c w mu args x y hH (by rw [l2];simp) (fun k av hk => ?_) Fq).mono fun e w' ⟨v,he,c',hb,hv⟩ => ?_
  ·obtain ⟨v,h1,h2⟩:=hold k av hk;rw [Nat.zero_add] at h2;refine ⟨v,h1,?_⟩;obtain ⟨ag,os,rfl⟩:=Jr k av hk
   cases ag<;>exact h2
  ·refine ⟨v,he,c',hb,.inl ⟨.one (q.ov y.1),rfl,v,[],rfl,hv,rfl⟩,?_⟩;have hlen:da.length=args.toList.length:=by rw [←l1,l2]
   have key:∀(l:List AP) (ws:List AV) (z:aw (aK (l.map some))) (u:aw (bC l)) (vs:List Value) (i:Nat),l.all AP.isV=true→dY l ws=some z→ws.length=vs.length→gI c' w' lc i ws vs (mE l u):=by
    intro l
    induction l with
    |nil=>
     intro ws z u vs i _ hc _
     cases ws with
     |nil=>rfl
     |cons _ _=>simp [dY] at hc
    |cons p l ih=>
     intro ws z u vs i hl hc hn;rw [List.all_cons,Bool.and_eq_true] at hl
     cases ws with
     |nil=>simp [dY] at hc
     |cons a ws=>
      cases vs with
      |nil=>simp at hn
      |cons v vs=>
       unfold dY at hc
       cases hq3:dY l ws with
       |none=>simp [hq3] at hc
       |some z'=>
        simp only [hq3] at hc
        cases p with
        |val ag qs=>
         cases a with
         |val ag' os=>exact ih ws z' u vs (i+1) hl.2 hq3 (by simpa using hn)
         |_=>cases ag<;>cases hc
        |_=>cases hl.1
   exact key ps da x _ args.toList 0 pH hx hlen
theorem yZ {c:Cz} {w w':World} {mu:Mu} {r:RT} {xs:List (aw r)} {vs:List Value} {B o cp:Nat} {cur:Array Value} {te:TypeId} {v:Value} (hH:Handed c w mu) (hB:w.heap.size≤B∨mu.m B)
  (nV:∀k,k<w.heap.size→k≠B→w'.heap[k]?=w.heap[k]?) (hk:w'.os=w.os∧w'.tape=w.tape∧w'.output=w.output∧w.heap.size≤w'.heap.size)
  (h1:v.oneCell'=true) (h2:fm (.at B o cp) r.width 0 xs.length v) (h3:xs.length≤cp) (h4:w'.heap[B]?=some (.cells cur te (0,0))) (h5:o+cp*r.width≤cur.size)
  (hr:w'.rangeAt B o vs) (hv:bo w c.ok r vs xs):∃c',CF w mu c' w'∧a7 c' w' .eF 0 [.own { r:=r,own:=true,xs:=xs }] [v]:=by
 have Hy:B<w'.heap.size:=(Array.getElem?_eq_some_iff.1 h4).1;have eQ:∀k,k<w.heap.size→c.ok k→k≠B:=by
  rintro k hk fk rfl
  rcases hB with hB | hB
  ·omega
  ·obtain ⟨l,hl,_⟩:=(hH.m k).1 hB;unfold Cz.ok at fk;rw [hl] at fk;cases fk
 have pz:ij w w' c.ok (c.lay B (.eF 0)).ok:=⟨hk.2.2.2,fun k ue fk=>nV k ue (eQ k ue fk),fun k ue fk=>by
  unfold Cz.ok Cz.lay;simp only;rw [if_neg (eQ k ue fk)];exact fk⟩
 refine ⟨c.lay B (.eF 0),⟨fun b l hb => ?_,fun b bQ hb => ?_,hk,fun k ue hm=>nV k ue (fun e => ?_),fun b l hb=>⟨Nat.lt_of_lt_of_le (hH.rs b l hb).1 hk.2.2.2,.inr (.inr (hH.rs b l hb).2)⟩⟩,v,[],rfl,⟨.at B o cp,h1,h2,rfl,if_pos rfl,h3,⟨cur,te,h4,h5⟩,(bh.sh rfl).2 (sG _ vs xs (bo.stays pz _ _ hv) hr)⟩,rfl⟩
 ·have hb:(if b=B then some (Lb.eF 0) else c.own b)=some l:=hb
  by_cases e:b=B
  ·subst e;exact ⟨Hy,hB.elim (fun h=>.inr (.inl h)) (fun h=>.inr (.inr h))⟩
  ·rw [if_neg e] at hb;exact ⟨Nat.lt_of_lt_of_le (hH.lt b l hb) hk.2.2.2,(hH.lb b l hb).imp id fun hh=>.inr ((hH.m b).2 ⟨l,hb,hh⟩)⟩
 ·have hb:(if b=B then some (Lb.eF 0) else c.own b)=none:=hb
  by_cases e:b=B
  ·rw [if_pos e] at hb;cases hb
  ·rw [if_neg e] at hb;exact .inr ((hH.ok b).2 hb)
 ·subst e;rcases hB with hB | hB
  ·omega
  ·exact hm hB
theorem bf.re {w:World} {P P':List Nat→Nat→Prop} {r:RT}:(i0 i1:Nat)→(vs:List Value)→(xs:List (aw r))→(∀j q k,j<xs.length→P ([i0+j]++q) k→P' ([i1+j]++q) k)→bf w P r i0 vs xs→bf w P' r i1 vs xs
 |_,_,_,[],_,h=>h
 |i0,i1,vs,x::xs,hP,⟨l1,l2,e,h1,h2⟩=>by
  refine ⟨l1,l2,e,bW.go r [i0] [i1] (fun q b hb=>⟨rfl,?_⟩) 0 l1 x h1,bf.re (i0+1) (i1+1) l2 xs (fun j q k hj hk => ?_) h2⟩
  ·have:=hP 0 q b (by simp) (by simpa using hb);simpa using this
  ·have:=hP (j+1) q k (by simpa using hj) (by rw [show i0+(j+1)=i0+1+j by omega];exact hk)
   rwa [show i1+(j+1)=i1+1+j by omega] at this
theorem bf.cut {w:World} {P:List Nat→Nat→Prop} {r:RT}:(i i0:Nat)→(vs:List Value)→(xs:List (aw r))→bf w P r i0 vs xs→bf w P r i0 (vs.take (i*r.width)) (xs.take i)∧bf w P r (i0+i) (vs.drop (i*r.width)) (xs.drop i)
 |0,i0,vs,xs,h=>by
  rw [Nat.zero_mul,List.take_zero,List.take_zero,List.drop_zero,List.drop_zero];exact ⟨rfl,h⟩
 |i+1,i0,vs,[],h=>by
  have h:vs=[]:=h;subst h;simp only [List.take_nil,List.drop_nil];exact ⟨rfl,rfl⟩
 |i+1,i0,vs,x::xs,h=>by
  obtain ⟨l1,l2,e,h1,h2⟩:=h;subst e;have hl:l1.length=r.width:=bW.length r _ _ l1 x h1;obtain ⟨k1,k2⟩:=bf.cut i (i0+1) l2 xs h2;have e:(i+1)*r.width=l1.length+i*r.width:=by rw [hl,Nat.add_mul];omega
  rw [e,List.take_length_add_append,List.drop_length_add_append,show i0+(i+1)=i0+1+i by omega];exact ⟨⟨l1,_,rfl,h1,k1⟩,k2⟩
open Classical in
noncomputable def Cz.Tv (c:Cz) (b:Nat) (l0 l:Lb):Cz:={ bx:=c.bx,lc:=c.lc,own:=fun b'=>if b'=b then some l else c.own b',rs:=fun k=>if c.rs k=some l0 then some l else c.rs k }
theorem JJ {c:Cz} {w w':World} {mu:Mu} {r:RT} {xs:List (aw r)} {vs:List Value} {B o cp:Nat} {cur:Array Value} {te:TypeId} {v:Value} {P:List Nat→Nat→Prop} {g:Nat→List Nat} (hH:Handed c w mu) (hB:w.heap.size≤B∨mu.m B)
  (nV:∀k,k<w.heap.size→k≠B→w'.heap[k]?=w.heap[k]?) (hk:w'.os=w.os∧w'.tape=w.tape∧w'.output=w.output∧w.heap.size≤w'.heap.size)
  (h1:v.oneCell'=true) (h2:fm (.at B o cp) r.width 0 xs.length v) (h3:xs.length≤cp) (h4:w'.heap[B]?=some (.cells cur te (0,0))) (h5:o+cp*r.width≤cur.size)
  (hr:w'.rangeAt B o vs) (hv:bf w P r 0 vs xs) (hP:∀i q k,P ([i]++q) k→c.Dd w (.bK 0 0) k∧g k=[i]++q):∃c',CF w mu c' w'∧a7 c' w' .eF 0 [.own { r:=r,own:=true,xs:=xs,md:=.lz }] [v]:=by
 have Hy:B<w'.heap.size:=(Array.getElem?_eq_some_iff.1 h4).1;have eQ:∀k,k<w.heap.size→c.ok k→k≠B:=by
  rintro k hk fk rfl
  rcases hB with hB | hB
  ·omega
  ·obtain ⟨l,hl,_⟩:=(hH.m k).1 hB;unfold Cz.ok at fk;rw [hl] at fk;cases fk
 refine ⟨c.Tv B (.bK 0 0) (.eF 0),⟨fun b l hb => ?_,fun b bQ hb => ?_,hk,fun k ue hm=>nV k ue (fun e => ?_),fun b l hb => ?_⟩,v,[],rfl,⟨.at B o cp,h1,h2,rfl,if_pos rfl,h3,⟨cur,te,h4,h5⟩,?_⟩,rfl⟩
 ·have hb:(if b=B then some (Lb.eF 0) else c.own b)=some l:=hb
  by_cases e:b=B
  ·subst e;exact ⟨Hy,hB.elim (fun h=>.inr (.inl h)) (fun h=>.inr (.inr h))⟩
  ·rw [if_neg e] at hb;exact ⟨Nat.lt_of_lt_of_le (hH.lt b l hb) hk.2.2.2,(hH.lb b l hb).imp id fun hh=>.inr ((hH.m b).2 ⟨l,hb,hh⟩)⟩
 ·have hb:(if b=B then some (Lb.eF 0) else c.own b)=none:=hb
  by_cases e:b=B
  ·rw [if_pos e] at hb;cases hb
  ·rw [if_neg e] at hb;exact .inr ((hH.ok b).2 hb)
 ·subst e;rcases hB with hB | hB
  ·omega
  ·exact hm hB
 ·have hq:∃l',c.rs b=some l':=by
   unfold Cz.Tv at hb;simp only at hb
   split at hb
   ·rename_i e;exact ⟨_,e⟩
   ·exact ⟨_,hb⟩
  obtain ⟨l',uB⟩:=hq;exact ⟨Nat.lt_of_lt_of_le (hH.rs b l' uB).1 hk.2.2.2,.inr (.inr (hH.rs b l' uB).2)⟩
 ·refine ⟨g,fun i x hx => ?_⟩;have hD:=bf.go (w':=w') (P':=fun p k=>(c.Tv B (.bK 0 0) (.eF 0)).Dd w' (.eF 0) k∧g k=p) 0 (fun i q k ue=>by
   obtain ⟨q1,q2⟩:=hP i q k ue;have hkB:=eQ k q1.2.2 q1.1;refine ⟨nV k q1.2.2 hkB,⟨?_,?_,Nat.lt_of_lt_of_le q1.2.2 hk.2.2.2⟩,q2⟩
   ·show (if k=B then some (Lb.eF 0) else c.own k)=none;rw [if_neg hkB];exact q1.1
   ·unfold Cz.Tv;simp only;rw [if_pos q1.2.1]) 0 vs xs hv
  have:=mN o 0 vs xs hD hr i x hx
  rwa [Nat.zero_add] at this
end Go.TM
