/- NextOf, of the program and of the reference. -/
import Derived.Test.YtlgnmloddedbaaaGreatQPRingL
set_option linter.unusedSimpArgs false
set_option linter.unusedVariables false
namespace Go.TM
open Go
theorem Ju (a b:Nat):Int.tmod ((a:Nat):Int) ((b:Nat):Int)=((a % b:Nat):Int):=rfl
def Ms {A B:Type} (xs:List (Int×Unit)):Sum A (Int×Unit)→Sum B (Int×Unit)→Prop
 |.inl _,.inl _=>True
 |.inr a,.inr b=>∃(k:Nat) (r:Int×Unit),b.1=((k:Nat):Int)∧k<xs.length∧xs[(k+1) % xs.length]?=some r∧a.1=r.1
 |_,_=>False
theorem OE (c d:Int) (xs:List (Int×Unit)) (h:xs.length≤1048576) (h1:1≤xs.length) :
  ∃e f,aF eA (d,c,xs,(0:Int),())=some e∧aF bJ (xs,d,((List.length xs:Nat):Int),(0:Int),())=some f∧Ms xs e f:=by
 refine nm xs.length (fun k x y=>x=(d,c,xs,((k:Nat):Int),())∧y=(xs,d,((List.length xs:Nat):Int),((k:Nat):Int),())) (Ms xs) ?_ ⟨rfl,rfl⟩
 rintro k x y hk ⟨rfl,rfl⟩
 by_cases cA:k<xs.length
 ·have hm:(k+1) % xs.length<xs.length:=Nat.mod_lt _ (by omega);simp only [eA,kZ,bJ,dK,az cA,aw,cond_true,aC,List.getElem?_eq_getElem cA,Option.bind_some,aE (show k<4611686018427387904 by omega),Ju,List.getElem?_eq_getElem hm,
   aq (show ¬((List.length xs:Nat):Int)=0 by omega),cond_false]
  by_cases hd:xs[k].1=d
  ·rw [aj hd,aj hd.symm];exact .inl ⟨.inr (xs[(k+1) % xs.length].1,()),.inr (((k:Nat):Int),()),rfl,rfl,k,xs[(k+1) % xs.length],rfl,cA,List.getElem?_eq_getElem hm,rfl⟩
  ·rw [aq hd,aq (fun e=>hd e.symm)];exact .inr ⟨cA,_,_,rfl,rfl,rfl,rfl⟩
 ·have:k=xs.length:=by omega
  subst this;exact .inl ⟨.inl (),.inl (),by simp only [eA,kZ,aD,cond_false],by simp only [bJ,dK,aD,cond_false],trivial⟩
theorem Lo (d:Int) (xs:List (Int×Unit)) (h:xs.length≤1048576):∃f,aF bJ (xs,d,((List.length xs:Nat):Int),(0:Int),())=some f:=by
 obtain ⟨f,hf,_⟩:=cL (round:=bJ) (x:=(xs,d,((List.length xs:Nat):Int),((0:Nat):Int),())) xs.length (fun k x=>x=(xs,d,((List.length xs:Nat):Int),((k:Nat):Int),())) (fun _=>True) (by
  rintro x rfl
  exact ⟨.inl (),by simp only [bJ,dK,aD,cond_false],trivial⟩) (by
  rintro k x hk rfl
  simp only [bJ,dK,az hk,aw,cond_true,aC,List.getElem?_eq_getElem hk,Option.bind_some,aE (show k<4611686018427387904 by omega)]
  cases decide (d=xs[k].1)
  ·exact .inr ⟨_,rfl,rfl⟩
  ·exact .inl ⟨_,rfl,trivial⟩) rfl
 exact ⟨f,hf⟩
theorem OF (c d:Int) (xs:List (Int×Unit)) (h:xs.length≤1048576):∃b,cC c xs d=some (b,())∧s8 c xs d=some (b,()):=by
 obtain ⟨b,h1,h2,h3⟩:=Ch c xs h;unfold cC s8 jA;rw [h1];simp only [Option.bind_some]
 cases b with
 |false=>
  obtain ⟨f,hf⟩:=Lo d xs h;rw [hf]
  cases f with
  |inl f=>exact ⟨0,rfl,rfl⟩
  |inr f=>
   refine ⟨0,rfl,?_⟩;simp only [bN,Option.bind_some,h2]
   cases decide (f.1<0)<;>rfl
 |true=>
  obtain ⟨l1,l2⟩:=h3 rfl;obtain ⟨e,f,g1,g2,g3⟩:=OE c d xs h l1;rw [g1,g2]
  cases e with
  |inl e=>cases f with
   |inl f=>exact ⟨0,rfl,rfl⟩
   |inr f=>exact g3.elim
  |inr e=>cases f with
   |inl f=>exact g3.elim
   |inr f=>
    obtain ⟨k,r,q1,q2,q3,q4⟩:=g3;refine ⟨e.1,rfl,?_⟩;simp only [bN,Option.bind_some,h2,q1,aq (show ¬((k:Nat):Int)<0 by omega),cond_false,Bool.not_true,aq (show ¬((List.length xs:Nat):Int)=0 by omega),
     aE (show k<4611686018427387904 by omega),Ju,aw,cond_true,aC,q3,q4]
end Go.TM
set_option linter.unusedSimpArgs false
set_option linter.unusedVariables false
namespace Go.TM
open Go
structure gr (n:Nat) (w:bT):Prop where
 ring:EU w.1 w.2.1
 len:w.2.2.1.length=w.2.1.length
 ids:∀k (hk:k<w.2.2.1.length) (hm:k<w.2.1.length),(w.2.2.1[k]).1=w.2.1[k].1
 sA:∀m∈w.2.2.1,sI m
 Cn:w.2.2.2.1.length≤1048576+400*n
 lR:∀f∈w.2.2.2.1,f.q.2.2.1.length≤1048576
 heard:w.2.2.2.2.1.length=w.2.1.length
 list:∀h∈w.2.2.2.2.1,h.1.length≤1048576+60*n
 said:w.q.1.length≤1048576+63*n
theorem uC.x {n:Nat} {c:Int} {ms:km} {w:bT} (h:uC n c ms w):gr (n+1) w:=by
 obtain ⟨e1,e2⟩:=h.self;subst e1 e2;exact
 {
  ring:=h.ring
  len:=h.len
  ids:=h.ids
  sA:=fun m hm=>(h.sA m hm).1
  Cn:=Nat.le_trans h.Cn (Nat.le_add_left _ _)
  lR:=fun f hf=>Nat.le_trans (h.JH f hf).Cn (by decide)
  heard:=h.heard
  list:=fun x hx=>Nat.le_trans (h.list x hx) (Nat.le_trans (Nat.mul_le_mul_left 60 (Nat.le_succ n)) (Nat.le_add_left _ _))
  said:=Nat.le_trans h.said.2 (Nat.le_trans (Nat.mul_le_mul_left 63 (Nat.le_succ n)) (Nat.le_add_left _ _)) }
theorem gr.Df {n:Nat} {w:bT} (h:gr n w):w.2.1.length≤5∧w.2.2.1.length≤5∧1≤w.2.1.length:=by
 have:=h.ring.2.1;have:=h.len;omega
theorem gr.inj {n:Nat} {w:bT} (h:gr n w) {i j:Nat} (hi:i<w.2.2.1.length) (hj:j<w.2.2.1.length) (e:(w.2.2.1[i]).1=(w.2.2.1[j]).1):i=j:=by
 have TN:i<w.2.1.length:=by rw [←h.len];exact hi
 have Qo:j<w.2.1.length:=by rw [←h.len];exact hj
 rw [h.ids i hi TN,h.ids j hj Qo] at e;exact Tz h.ring.2.2 TN Qo e
theorem Lp (w:bT) (h:w.2.2.1.length≤1048576) (id:Int):∃a,jE w.1 w.2.1 w.2.2.1 w.2.2.2.1 w.2.2.2.2.1 w.q.1 id=some (a,w.1,w.2.1,w.2.2.1,w.2.2.2.1,w.2.2.2.2.1,w.q.1,())∧((a = -1∧∀k (hk:k<w.2.2.1.length),(w.2.2.1[k]).1≠id)∨∃k,∃hk:k<w.2.2.1.length,a=((k:Nat):Int)∧(w.2.2.1[k]).1=id):=by
 obtain ⟨e,he,hq⟩:=cL (round:=ck) (x:=(w.2.2.1,[([(id,())],())],((List.length w.2.2.1:Nat):Int),((0:Nat):Int),())) w.2.2.1.length (fun k x=>x=(w.2.2.1,[([(id,())],())],((List.length w.2.2.1:Nat):Int),((k:Nat):Int),())∧∀j (hj:j<w.2.2.1.length),j<k→(w.2.2.1[j]).1≠id)
  (fun e=>(e=.inl ()∧∀k (hk:k<w.2.2.1.length),(w.2.2.1[k]).1≠id)∨∃k,∃hk:k<w.2.2.1.length,e=.inr (((k:Nat):Int),())∧(w.2.2.1[k]).1=id) (by
   rintro x ⟨rfl,g⟩
   exact ⟨_,by simp only [ck,fw,aD,cond_false],.inl ⟨rfl,fun k hk=>g k hk hk⟩⟩) (by
   rintro k x hk ⟨rfl,g⟩
   simp only [ck,fw,mK,az hk,aw,cond_true,aC,List.getElem?_eq_getElem hk,List.getElem?_cons_zero,Option.bind_some,aE (show k<4611686018427387904 by omega)]
   by_cases e:(w.2.2.1[k]).1=id
   ·rw [aj e];exact .inl ⟨_,rfl,.inr ⟨k,hk,rfl,e⟩⟩
   ·rw [aq e];refine .inr ⟨_,rfl,rfl,fun j hj Bs => ?_⟩
    by_cases e2:j<k
    ·exact g j hj e2
    ·have:j=k:=by omega
     subst this;exact e) ⟨rfl,fun j hj h=>by omega⟩
 have he:aF ck (w.2.2.1,[([(id,())],())],((List.length w.2.2.1:Nat):Int),(0:Int),())=some e:=he;unfold jE gW;rw [he];rcases hq with ⟨rfl,g⟩ | ⟨k,hk,rfl,g⟩
 ·exact ⟨_,rfl,.inl ⟨rfl,g⟩⟩
 ·exact ⟨_,rfl,.inr ⟨k,hk,rfl,g⟩⟩
theorem TA {n:Nat} {w:bT} (h:gr n w) (id:Int):∃a,rU w.1 w.2.1 w.2.2.1 w.2.2.2.1 w.2.2.2.2.1 w.q.1 id=some (a,w.1,w.2.1,w.2.2.1,w.2.2.2.1,w.2.2.2.2.1,w.q.1,())∧jE w.1 w.2.1 w.2.2.1 w.2.2.2.1 w.2.2.2.2.1 w.q.1 id=some (a,w.1,w.2.1,w.2.2.1,w.2.2.2.1,w.2.2.2.2.1,w.q.1,())∧((a = -1∧∀k (hk:k<w.2.2.1.length),(w.2.2.1[k]).1≠id)∨∃k,∃hk:k<w.2.2.1.length,a=((k:Nat):Int)∧(w.2.2.1[k]).1=id):=by
 have hl:=h.Df.2.1;obtain ⟨a,e1,q1⟩:=Zy w (by omega) id;obtain ⟨b,e2,q2⟩:=Lp w (by omega) id;have hab:b=a:=by
  rcases q1 with ⟨rfl,g1⟩ | ⟨i,hi,rfl,g1⟩
  ·rcases q2 with ⟨rfl,_⟩ | ⟨j,hj,rfl,g2⟩
   ·rfl
   ·exact absurd g2 (g1 j hj)
  ·rcases q2 with ⟨rfl,g2⟩ | ⟨j,hj,rfl,g2⟩
   ·exact absurd g1 (g2 i hi)
   ·rw [h.inj hj hi (g2.trans g1.symm)]
 subst hab;exact ⟨b,e1,e2,q1⟩
def jM (ms:km) (id:Int) (x:dv):List oO:=(ms.filter fun m => !decide (m.1=id)).map fun m=>(m.1,false,0,0,0,0,0,[],x.1,x.2.1,x.2.2.1,x.2.2.2.1,())
theorem FM (ms:km) (id:Int) (x:dv) {k:Nat} (hk:k<ms.length):jM (ms.take (k+1)) id x=jM (ms.take k) id x++(bif !decide (ms[k].1=id) then [(ms[k].1,false,0,0,0,0,0,[],x.1,x.2.1,x.2.2.1,x.2.2.2.1,())] else []):=by
 unfold jM;rw [List.take_succ_eq_append_getElem hk,List.filter_append,List.map_append,List.filter_cons]
 cases decide (ms[k].1=id)<;>rfl
theorem HP (ms:km) (id:Int) (x:dv):(jM ms id x).length≤ms.length:=by
 unfold jM;rw [List.length_map];exact List.length_filter_le _ _
theorem Jv (x:dv) (id:Int) (mt:List eZ):gi mt id x=((mt.map (·.1)).filter fun i => !decide (i=id)).map fun i=>(i,false,0,0,0,0,0,[],x.1,x.2.1,x.2.2.1,x.2.2.2.1,()):=by
 unfold gi
 induction mt with
 |nil=>rfl
 |cons m mt ih=>
  rw [List.filter_cons,List.map_cons,List.filter_cons]
  cases decide (m.1=id)<;>simp_all
theorem HQ (x:dv) (id:Int) (ms:km):jM ms id x=((ms.map (·.1)).filter fun i => !decide (i=id)).map fun i=>(i,false,0,0,0,0,0,[],x.1,x.2.1,x.2.2.1,x.2.2.2.1,()):=by
 unfold jM
 induction ms with
 |nil=>rfl
 |cons m ms ih=>
  rw [List.filter_cons,List.map_cons,List.filter_cons]
  cases decide (m.1=id)<;>simp_all
theorem Rs {w:bT} (hl:w.2.2.1.length=w.2.1.length) (hi:∀k (hk:k<w.2.2.1.length) (hm:k<w.2.1.length),(w.2.2.1[k]).1=w.2.1[k].1) (id:Int) (x:dv):jM w.2.1 id x=gi w.2.2.1 id x:=by
 rw [Jv,HQ];have:w.2.1.map (·.1)=w.2.2.1.map (·.1):=by
  apply List.ext_getElem
  ·rw [List.length_map,List.length_map,hl]
  ·intro k h1 h2;rw [List.length_map] at h1 h2;rw [List.getElem_map,List.getElem_map];exact (hi k h2 h1).symm
 rw [this]
theorem C6 (w:bT) (id:Int) (l:aW) (hl:w.2.2.1.length=w.2.1.length) (hi:∀k (hk:k<w.2.2.1.length) (hm:k<w.2.1.length),(w.2.2.1[k]).1=w.2.1[k].1) (h1:w.2.1.length≤5) (h2:w.2.2.2.1.length≤1073741824) (h3:l.length≤1048576):eB w.1 w.2.1 w.2.2.1 w.2.2.2.1 w.2.2.2.2.1 w.q.1 id l=some (w.1,w.2.1,w.2.2.1,w.2.2.2.1++dY w.2.2.1 id l,w.2.2.2.2.1,w.q.1,()):=by
 have inner:∀(fl:List oO) (i:Nat) (TI:i<l.length),fl.length≤2147483648→aF dt (w.1,w.2.1,w.2.2.1,fl,w.2.2.2.2.1,w.q.1,id,(l[i]).1,(l[i]).2.1,(l[i]).2.2.1,(l[i]).2.2.2.1,l,((List.length l:Nat):Int),((i:Nat):Int),w.2.1,((List.length w.2.1:Nat):Int),(0:Int),())=some (.inl (w.1,w.2.1,w.2.2.1,fl++gi w.2.2.1 id l[i],w.2.2.2.2.1,w.q.1,id,l,((List.length l:Nat):Int),((i:Nat):Int),())):=by
  intro fl i TI hf;have l1:=bI (round:=dt) (e:=.inl (w.1,w.2.1,w.2.2.1,fl++jM w.2.1 id l[i],w.2.2.2.2.1,w.q.1,id,l,((List.length l:Nat):Int),((i:Nat):Int),())) w.2.1.length (fun k=>(w.1,w.2.1,w.2.2.1,fl++jM (w.2.1.take k) id l[i],w.2.2.2.2.1,w.q.1,id,(l[i]).1,(l[i]).2.1,(l[i]).2.2.1,(l[i]).2.2.2.1,l,((List.length l:Nat):Int),((i:Nat):Int),w.2.1,((List.length w.2.1:Nat):Int),((k:Nat):Int),())) (by
   simp only [dt,lh,aD,cond_false,List.take_length]) (fun k hk=>by
   have hb:Nat.ble (((fl++jM (w.2.1.take k) id l[i]).length+1)*120) lim=true:=aQ (by
    have:=HP (w.2.1.take k) id l[i];rw [List.length_take] at this;rw [List.length_append];unfold lim;omega)
   rw [FM w.2.1 id l[i] hk];simp only [dt,lh,az hk,aw,cond_true,aC,List.getElem?_eq_getElem hk,Option.bind_some,aE (show k<4611686018427387904 by omega),hb]
   cases decide ((w.2.1[k]).1=id)
   ·simp only [Bool.not_false,cond_true,List.append_assoc]
   ·simp only [Bool.not_true,cond_false,List.append_nil])
  have l1:aF dt (w.1,w.2.1,w.2.2.1,fl++jM (w.2.1.take 0) id l[i],w.2.2.2.2.1,w.q.1,id,(l[i]).1,(l[i]).2.1,(l[i]).2.2.1,(l[i]).2.2.2.1,l,((List.length l:Nat):Int),((i:Nat):Int),w.2.1,((List.length w.2.1:Nat):Int),(0:Int),())=_:=l1;rw [show jM (w.2.1.take 0) id l[i]=[] from rfl,List.append_nil,Rs hl hi] at l1;exact l1
 have l2:=bI (round:=du) (e:=.inl (w.1,w.2.1,w.2.2.1,w.2.2.2.1++dY w.2.2.1 id l,w.2.2.2.2.1,w.q.1,())) l.length (fun k=>(w.1,w.2.1,w.2.2.1,w.2.2.2.1++dY w.2.2.1 id (l.take k),w.2.2.2.2.1,w.q.1,id,l,((List.length l:Nat):Int),((k:Nat):Int),())) (by
  simp only [du,lj,aD,cond_false,List.take_length]) (fun k hk=>by
  have hln:=oP w.2.2.1 id 5 (by omega) (l.take k);rw [List.length_take] at hln;have Db:=inner (w.2.2.2.1++dY w.2.2.1 id (l.take k)) k hk (by rw [List.length_append];omega);rw [E5 w.2.2.1 id l hk];simp only [du,lj,az hk,aw,cond_true,aC,List.getElem?_eq_getElem hk,Option.bind_some];rw [Db];simp only [cW,aE (show k<4611686018427387904 by omega),List.append_assoc])
 have l2:aF du (w.1,w.2.1,w.2.2.1,w.2.2.2.1++dY w.2.2.1 id (l.take 0),w.2.2.2.2.1,w.q.1,id,l,((List.length l:Nat):Int),(0:Int),())=_:=l2;rw [show dY w.2.2.1 id (l.take 0)=[] from rfl,List.append_nil] at l2;have l2:aF du (w.1,w.2.1,w.2.2.1,w.2.2.2.1,w.2.2.2.2.1,w.q.1,id,l,((List.length l:Nat):Int),(0:Int),())=_:=l2;unfold eB;rw [l2];rfl
end Go.TM
set_option linter.unusedSimpArgs false
set_option linter.unusedVariables false
namespace Go.TM
open Go
theorem Jw (w:bT) (id:Int) (t:oN) (h1:w.2.1.length≤1048576) (h2:w.2.2.2.1.length≤2147483648) (h3:t.q.1.length≤1048576):gX w.1 w.2.1 w.2.2.1 w.2.2.2.1 w.2.2.2.2.1 w.q.1 id t.1 t.2.1 t.2.2.1 t.2.2.2.1 t.2.2.2.2.1 t.q.1=some ((ln w (w.2.2.2.1++[iX (jL w.1 w.2.1 id) t])).1,(ln w (w.2.2.2.1++[iX (jL w.1 w.2.1 id) t])).2.1,(ln w (w.2.2.2.1++[iX (jL w.1 w.2.1 id) t])).2.2.1,(ln w (w.2.2.2.1++[iX (jL w.1 w.2.1 id) t])).2.2.2.1,(ln w (w.2.2.2.1++[iX (jL w.1 w.2.1 id) t])).2.2.2.2.1,(ln w (w.2.2.2.1++[iX (jL w.1 w.2.1 id) t])).q.1,()):=by
 obtain ⟨b,n1,n2⟩:=OF w.1 id w.2.1 h1;have hb:jL w.1 w.2.1 id=b:=by unfold jL;rw [n1]
 unfold gX;simp only [n2,(gh t.1 t.2.1 t.2.2.1 t.2.2.2.1 t.2.2.2.2.1 t.q.1 h3).2,Option.bind_some,aQ (show (w.2.2.2.1.length+1)*120≤lim by unfold lim;omega),cond_true,hb];rfl
theorem TB (m:eZ) (h:m.2.2.2.1.length≤1048576):pc m.1 m.2.1 m.2.2.1 m.2.2.2.1 m.2.2.2.2.1 m.q.1 m.q.2.1 m.q.2.2.1 m.q.2.2.2.1 m.q.2.2.2.2.1 m.q.q.1 m.q.q.2.1 m.q.q.2.2.1 m.q.q.2.2.2.1 m.q.q.2.2.2.2.1 m.q.q.q.1=some (E6 m,()):=by
 have l1:=bI (round:=gH) (e:=.inl (E6 m,())) m.2.2.2.1.length (fun i=>(m.1,m.2.1,m.2.2.1,m.2.2.2.1,m.2.2.2.2.1,m.q.1,m.q.2.1,m.q.2.2.1,m.q.2.2.2.1,m.q.2.2.2.2.1,m.q.q.1,m.q.q.2.1,m.q.q.2.2.1,m.q.q.2.2.2.1,m.q.q.2.2.2.2.1,m.q.q.q.1,(m.2.2.2.1.take i).filter (fun x=>decide (x.2.1=m.1)),m.2.2.2.1,((List.length m.2.2.2.1:Nat):Int),((i:Nat):Int),())) (by
  simp only [gH,oG,aD,cond_false,List.take_length];rfl) (fun i hi=>by
  have hb:Nat.ble ((((m.2.2.2.1.take i).filter (fun x=>decide (x.2.1=m.1))).length+1)*40) lim=true:=aQ (by
   have:=List.length_filter_le (fun x:dv=>decide (x.2.1=m.1)) (m.2.2.2.1.take i);rw [List.length_take] at this;unfold lim;omega)
  rw [List.take_succ_eq_append_getElem hi,List.filter_append,List.filter_cons];simp only [gH,oG,az hi,aw,cond_true,aC,List.getElem?_eq_getElem hi,Option.bind_some,aE (show i<4611686018427387904 by omega),hb]
  by_cases e:(m.2.2.2.1[i]).2.1=m.1
  ·rw [aj e];rfl
  ·rw [aq e];simp only [cond_false];rw [if_neg (by decide)];simp)
 have l1:aF gH (m.1,m.2.1,m.2.2.1,m.2.2.2.1,m.2.2.2.2.1,m.q.1,m.q.2.1,m.q.2.2.1,m.q.2.2.2.1,m.q.2.2.2.2.1,m.q.q.1,m.q.q.2.1,m.q.q.2.2.1,m.q.q.2.2.2.1,m.q.q.2.2.2.2.1,m.q.q.q.1,[],m.2.2.2.1,((List.length m.2.2.2.1:Nat):Int),(0:Int),())=_:=l1;unfold pc;rw [l1];rfl
theorem gr.up {n n':Nat} {w:bT} (h:gr n w) (hn:n≤n'):gr n' w:=
 {
  h with
  Cn:=Nat.le_trans h.Cn (Nat.add_le_add_left (Nat.mul_le_mul_left _ hn) _)
  list:=fun x hx=>Nat.le_trans (h.list x hx) (Nat.add_le_add_left (Nat.mul_le_mul_left _ hn) _)
  said:=Nat.le_trans h.said (Nat.add_le_add_left (Nat.mul_le_mul_left _ hn) _) }
theorem gr.Lm {n:Nat} {w:bT} (h:gr n w) {k:Nat} (hk:k<w.2.2.1.length) {m:eZ} (hm:sI m) (h1:m.1=(w.2.2.1[k]).1):gr n (uB w k m):=
 {
  ring:=h.ring
  len:=by show (w.2.2.1.set k m).length=_;rw [List.length_set];exact h.len
  ids:=fun j hj Br=>by
   have hj:j<(w.2.2.1.set k m).length:=hj;show ((w.2.2.1.set k m)[j]).1=_;rw [List.getElem_set];rw [List.length_set] at hj
   split
   ·rename_i e;subst e;rw [h1];exact h.ids k hk Br
   ·exact h.ids j hj Br
  sA:=fun x hx=>by
   have hx:x∈w.2.2.1.set k m:=hx;rcases List.mem_or_eq_of_mem_set hx with hx | rfl
   ·exact h.sA x hx
   ·exact hm
  Cn:=h.Cn
  lR:=h.lR
  heard:=h.heard
  list:=h.list
  said:=h.said }
theorem gr.Rq {n:Nat} {w:bT} (h:gr n w) {l:List oO} (h1:∀f∈l,f.q.2.2.1.length≤1048576) (h2:l.length≤1048576+400*n):gr n (ln w l):=
 { ring:=h.ring,len:=h.len,ids:=h.ids,sA:=h.sA,Cn:=h2,lR:=h1,heard:=h.heard,list:=h.list,said:=h.said }
theorem Jx {m:eZ} (hm:sI m):(jX m).q.1.length≤20:=by
 rcases hm.last with q | q
 ·have:(jX m).q.1=[]:=q.2.2.2.2.2;rw [this];exact Nat.zero_le _
 ·exact q.q.1
theorem Jy {ms:List eZ} {id:Int} {l:aW}:∀f∈dY ms id l,f.q.2.2.1.length≤1048576:=by
 intro f hf;obtain ⟨m,_,x,hx,_,rfl⟩:=GU hf;exact Nat.zero_le _
noncomputable def aeZ (w:bT) (k:Nat) (f:oO) (m':eZ) (said:aW) (nx:oN):bT:=
 let w2:=nX (uB w k m') f said
 ln (ln w2 (w2.2.2.2.1++dY w2.2.2.1 f.1 said)) ((w2.2.2.2.1++dY w2.2.2.1 f.1 said)++[iX (jL w2.1 w2.2.1 f.1) nx])
inductive Came (w:bT) (f:oO):bT→Prop where
 |no:Came w f w
 |Rt (k:Nat) (hk:k<w.2.2.1.length) (Hi:(w.2.2.1[k]).1=f.1) (ht:f.2.1=false):Came w f (uB w k (qn w.2.2.1[k] (f.q.2.2.2.1,f.q.2.2.2.2.1,f.q.q.1,f.q.q.2.1,())))
 |held (k:Nat) (hk:k<w.2.2.1.length) (Hi:(w.2.2.1[k]).1=f.1) (ht:f.2.1=true) (m':eZ) (said:aW) (j:Nat) (nx:oN) (hT:FI (f.2.2.1,f.2.2.2.1,f.2.2.2.2.1,f.q.1,f.q.2.1,f.q.2.2.1,())) (hr:(w.2.2.1[k]).q.2.1<f.2.2.2.1) (H:Zu w.2.2.1[k] (f.2.2.1,f.2.2.2.1,f.2.2.2.2.1,f.q.1,f.q.2.1,f.q.2.2.1,()) m' said j nx):Came w f (aeZ w k f m' said nx)
def ZA (w:bT) (k:Nat) (m':eZ) (l:aW):bT:=Zx (uB w k m') (w.2.2.2.2.1.set k (l,()))
inductive Step (w:bT) (e:aeY):bT→Prop where
 |same:Step w e w
 |say (k:Nat) (hk:k<w.2.2.1.length) (Hi:(w.2.2.1[k]).1=e.2.1) (h1:e.1=1):Step w e (uB w k (aeV w.2.2.1[k] e.2.2.2.1 e.2.2.2.2.1))
 |apN (k:Nat) (hk:k<w.2.2.1.length) (qw:k<w.2.2.2.2.1.length) (j:Nat) (hj:(w.2.2.1[k]).q.2.2.2.2.1+((j:Nat):Int)≤((dw (w.2.2.1[k]).2.2.2.1:Nat):Int))
   (hw:∀i,i<j→¬yT (w.2.2.1[k]).2.2.2.1 (w.2.2.1[k]).q.2.2.2.1 ((w.2.2.1[k]).q.2.2.2.2.1+((i+1:Nat):Int))):Step w e (ZA w k (yv w.2.2.1[k] ((w.2.2.1[k]).q.2.2.2.2.1+((j:Nat):Int))) ((w.2.2.2.2.1[k]).1++il (w.2.2.1[k]).2.2.2.1 (w.2.2.1[k]).q.2.2.2.2.1 j))
 |again (k:Nat) (hk:k<w.2.2.1.length) (hb:¬Blank (jX w.2.2.1[k])):Step w e (tN w w.2.2.1[k])
 |dup (j:Nat) (hj:j<w.2.2.2.1.length):Step w e (ln w (w.2.2.2.1++[w.2.2.2.1[j]]))
 |drop (j:Nat) (hj:j<w.2.2.2.1.length):Step w e (ln w (w.2.2.2.1.take j++w.2.2.2.1.drop (j+1)))
 |apO (j:Nat) (hj:j<w.2.2.2.1.length) (w':bT) (h:Came (ln w (w.2.2.2.1.take j++w.2.2.2.1.drop (j+1))) w.2.2.2.1[j] w'):Step w e w'
theorem Ru {m:eZ} (hm:sI m) (x:dv):sI (qn m x)∧(qn m x).1=m.1:=by
 cases hx:yS x
 ·have hc:qn m x=m:=by
   unfold qn OA;rw [hx]
   cases xO m<;>cases sw m.2.2.2.1<;>rfl
  rw [hc];exact ⟨hm,rfl⟩
 ·have hq:=(Bi x).2.2.1 hx;rw [OD hm hq];exact ⟨Ln hm hq,rfl⟩
theorem OG {m:eZ} {t:oN} {m':eZ} {said:aW} {j:Nat} {nx:oN} (H:Zu m t m' said j nx) (hT:FI t) {f:oO} (UC:(f.2.2.1,f.2.2.2.1,f.2.2.2.2.1,f.q.1,f.q.2.1,f.q.2.2.1,())=t):Ad f said=said.drop (said.length-j):=by
 have hs:f.2.2.2.2.1=t.2.2.1:=by rw [←UC]
 have h1:∀x∈th t m.2.2.2.1,¬t.2.2.1<x.1:=fun x hx=>by
  have hw:=(List.mem_filter.1 hx).2;rw [decide_eq_true_eq] at hw;unfold bw at hw;obtain ⟨y,hy,e⟩:=List.mem_map.1 hw;obtain ⟨k,hk,rfl⟩:=List.mem_iff_getElem.1 hy;have:=(hT.q.2 k hk hk).2.1;omega
 have h2:∀x∈dI t.2.2.1 m.1 m.2.2.2.2.1 m.q.1 j,t.2.2.1<x.1:=fun x hx=>by
  obtain ⟨i,hi,rfl⟩:=HN hx;show t.2.2.1<t.2.2.1+((i+1:Nat):Int);omega
 unfold Ad;rw [hs,H.said,List.filter_append,List.length_append,j6,Nat.add_sub_cancel,List.drop_left,List.filter_eq_nil_iff.2 (fun x hx=>by rw [decide_eq_true_eq];exact h1 x hx),List.nil_append,List.filter_eq_self.2 (fun x hx=>decide_eq_true (h2 x hx))]
theorem Lq (w:bT) (f:oO) (l:aW) (t:oN) (h1:w.q.1.length≤1073741824) (h2:l.length≤1048576):aF fS (w.1,w.2.1,w.2.2.1,w.2.2.2.1,w.2.2.2.2.1,w.q.1,f.1,f.2.1,f.2.2.1,f.2.2.2.1,f.2.2.2.2.1,f.q.1,f.q.2.1,f.q.2.2.1,f.q.2.2.2.1,f.q.2.2.2.2.1,f.q.q.1,f.q.q.2.1,l,t.1,t.2.1,t.2.2.1,t.2.2.2.1,t.2.2.2.2.1,t.q.1,(0:Int),())=some (.inl ((nX w f l).1,(nX w f l).2.1,(nX w f l).2.2.1,(nX w f l).2.2.2.1,(nX w f l).2.2.2.2.1,(nX w f l).q.1,f.1,f.2.1,f.2.2.1,f.2.2.2.1,f.2.2.2.2.1,f.q.1,f.q.2.1,f.q.2.2.1,f.q.2.2.2.1,f.q.2.2.2.2.1,f.q.q.1,f.q.q.2.1,l,t.1,t.2.1,t.2.2.1,t.2.2.2.1,t.2.2.2.2.1,t.q.1,())):=by
 have l1:=bI (round:=fS) (e:=.inl ((nX w f l).1,(nX w f l).2.1,(nX w f l).2.2.1,(nX w f l).2.2.2.1,(nX w f l).2.2.2.2.1,(nX w f l).q.1,f.1,f.2.1,f.2.2.1,f.2.2.2.1,f.2.2.2.2.1,f.q.1,f.q.2.1,f.q.2.2.1,f.q.2.2.2.1,f.q.2.2.2.2.1,f.q.q.1,f.q.q.2.1,l,t.1,t.2.1,t.2.2.1,t.2.2.2.1,t.2.2.2.2.1,t.q.1,())) l.length (fun k=>((nX w f (l.take k)).1,(nX w f (l.take k)).2.1,(nX w f (l.take k)).2.2.1,(nX w f (l.take k)).2.2.2.1,(nX w f (l.take k)).2.2.2.2.1,(nX w f (l.take k)).q.1,f.1,f.2.1,f.2.2.1,f.2.2.2.1,f.2.2.2.2.1,f.q.1,f.q.2.1,f.q.2.2.1,f.q.2.2.2.1,f.q.2.2.2.2.1,f.q.q.1,f.q.q.2.1,l,t.1,t.2.1,t.2.2.1,t.2.2.2.1,t.2.2.2.2.1,t.q.1,((k:Nat):Int),())) (by
  simp only [fS,qe,aD,cond_false,List.take_length]) (fun k hk=>by
  have hl:=E7 f (l.take k);rw [List.length_take] at hl;have RF:Nat.ble ((0+(w.q.1++Ad f (l.take k)).length)*40) lim=true:=aQ (by rw [List.length_append];unfold lim;omega);have PI:Nat.ble (((w.q.1++Ad f (l.take k)).length+1)*40) lim=true:=aQ (by rw [List.length_append];unfold lim;omega);have e:Ad f (l.take (k+1))=Ad f (l.take k)++(if decide (f.2.2.2.2.1<(l[k]).1)=true then [l[k]] else []):=by
   unfold Ad;rw [List.take_succ_eq_append_getElem hk,List.filter_append,List.filter_cons,List.filter_nil]
  simp only [nX,aeW,e,fS,qe,az hk,cX hk,aw,cond_true,aC,List.getElem?_eq_getElem hk,Option.bind_some,aE (show k<4611686018427387904 by omega),RF,PI,List.nil_append,jg]
  by_cases e:f.2.2.2.2.1<(l[k]).1
  ·rw [aj e,if_pos rfl,←List.append_assoc];rfl
  ·rw [aq e,if_neg (by decide)];simp only [cond_false];rw [List.append_nil])
 have l1:aF fS ((nX w f (l.take 0)).1,(nX w f (l.take 0)).2.1,(nX w f (l.take 0)).2.2.1,(nX w f (l.take 0)).2.2.2.1,(nX w f (l.take 0)).2.2.2.2.1,(nX w f (l.take 0)).q.1,f.1,f.2.1,f.2.2.1,f.2.2.2.1,f.2.2.2.2.1,f.q.1,f.q.2.1,f.q.2.2.1,f.q.2.2.2.1,f.q.2.2.2.2.1,f.q.q.1,f.q.q.2.1,l,t.1,t.2.1,t.2.2.1,t.2.2.2.1,t.2.2.2.2.1,t.q.1,(0:Int),())=_:=l1;have e0:nX w f (l.take 0)=w:=by unfold nX;rw [show Ad f (l.take 0)=[] from rfl,List.append_nil];rfl
 rwa [e0] at l1
theorem OH {n:Nat} {w:bT} (h:gr n w) (hn:n≤1000000) (f:oO) (hf:f.q.2.2.1.length≤1048576):∃a w',nD w.1 w.2.1 w.2.2.1 w.2.2.2.1 w.2.2.2.2.1 w.q.1 f.1 f.2.1 f.2.2.1 f.2.2.2.1 f.2.2.2.2.1 f.q.1 f.q.2.1 f.q.2.2.1 f.q.2.2.2.1 f.q.2.2.2.2.1 f.q.q.1 f.q.q.2.1=some (a,w'.1,w'.2.1,w'.2.2.1,w'.2.2.2.1,w'.2.2.2.2.1,w'.q.1,())∧lk w.1 w.2.1 w.2.2.1 w.2.2.2.1 w.2.2.2.2.1 w.q.1 f.1 f.2.1 f.2.2.1 f.2.2.2.1 f.2.2.2.2.1 f.q.1 f.q.2.1 f.q.2.2.1 f.q.2.2.2.1 f.q.2.2.2.2.1 f.q.q.1 f.q.q.2.1=some (a,w'.1,w'.2.1,w'.2.2.1,w'.2.2.2.1,w'.2.2.2.2.1,w'.q.1,())∧gr (n+1) w'∧Came w f w':=by
 obtain ⟨q0,q1,q2⟩:=h.Df;have apP:=h.Cn;obtain ⟨a,e1,i1,hq⟩:=TA h f.1;unfold nD lk
 try simp only [jg]
 simp only [e1,i1,Option.bind_some];rcases hq with ⟨rfl,_⟩ | ⟨k,hk,rfl,Hi⟩
 ·exact ⟨1,w,rfl,rfl,h.up (Nat.le_succ n),.no⟩
 have hm:=h.sA _ (List.getElem_mem hk);have hi:=(cQ _ hm.items).1;have hw:=hm.small;simp only [aq (show ¬((k:Nat):Int)<0 by omega),cond_false,aw,cond_true,aC,cX hk,List.getElem?_eq_getElem hk,Option.bind_some]
 cases ht:f.2.1
 ·obtain ⟨e2,i2⟩:=Lf w.2.2.1[k] (f.q.2.2.2.1,f.q.2.2.2.2.1,f.q.q.1,f.q.q.2.1,()) (Nat.le_trans hw (by decide));obtain ⟨c1,c2⟩:=Ru hm (f.q.2.2.2.1,f.q.2.2.2.2.1,f.q.q.1,f.q.q.2.1,());have e3:=E4 w (by omega) hk (qn w.2.2.1[k] (f.q.2.2.2.1,f.q.2.2.2.2.1,f.q.q.1,f.q.q.2.1,()));refine ⟨0,uB w k (qn w.2.2.1[k] (f.q.2.2.2.1,f.q.2.2.2.2.1,f.q.q.1,f.q.q.2.1,())),?_,?_,(h.Lm hk c1 c2).up (Nat.le_succ n),.Rt k hk Hi ht⟩
  ·simp only [Bool.not_false,cond_true];rw [e2];simp only [Option.bind_some];rw [e3];rfl
  ·simp only [Bool.not_false,cond_true];rw [i2];rfl
 ·simp only [Bool.not_true,cond_false];generalize ht':((f.2.2.1,f.2.2.2.1,f.2.2.2.2.1,f.q.1,f.q.2.1,f.q.2.2.1,()):oN)=t;have UC:(f.2.2.1,f.2.2.2.1,f.2.2.2.2.1,f.q.1,f.q.2.1,f.q.2.2.1,())=t:=ht';have hwt:t.q.1.length≤1048576:=by rw [←UC];exact hf
  cases hh:Mq w.2.2.1[k] t
  ·obtain ⟨i2,e2⟩:=Tu w.2.2.1[k] t (Nat.le_trans hw (by decide)) hwt hh;subst UC;rw [e2,i2];exact ⟨1,w,rfl,rfl,h.up (Nat.le_succ n),.no⟩
  ·unfold Mq at hh;simp only [Bool.and_eq_true,decide_eq_true_eq] at hh;have hT:=(Ci t hwt).2.2.1 hh.2.1;obtain ⟨m',said,j,nx,H,i2,e2⟩:=Tq w.2.2.1[k] t hm hT hh.2.2.1 hh.2.2.2.1 hh.2.2.2.2;have hlen:said.length≤63:=by
    rw [H.said,List.length_append,j6];have:=E1 t (w.2.2.1[k]).2.2.2.1;have:=H.Cn.1;omega
   have hjl:j≤said.length:=by rw [H.said,List.length_append,j6];omega
   have hs:=h.said;have e3:=E4 w (by omega) hk m';have hW:=h.Lm hk H.nq H.id.1;have RC:=OG H hT UC;have R7:=E7 f said;have e4:=Lq (uB w k m') f said nx (by show w.q.1.length≤_;omega) (by omega);generalize UB:nX (uB w k m') f said=w2 at e4;have p1:w2.2.2.1=w.2.2.1.set k m':=by rw [←UB];rfl
   have p2:w2.2.2.2.1=w.2.2.2.1:=by rw [←UB];rfl
   have p3:w2.2.1=w.2.1:=by rw [←UB];rfl
   have hW2:gr (n+1) w2:=by
    rw [←UB];have hU:=hW.up (Nat.le_succ n);have hsd:(w.q.1++Ad f said).length≤1048576+63*(n+1):=by rw [List.length_append];omega
    exact { ring:=hU.ring,len:=hU.len,ids:=hU.ids,sA:=hU.sA,Cn:=hU.Cn,lR:=hU.lR,heard:=hU.heard,list:=hU.list,said:=hsd }
   have hm5:w2.2.2.1.length≤5:=by rw [p1,List.length_set];exact q1
   have e5:=Js w2 f.1 said hm5 (by rw [p2];omega) (by omega);have htl:=oP w2.2.2.1 f.1 5 hm5 said;have hl6:(w2.2.2.2.1++dY w2.2.2.1 f.1 said).length≤w.2.2.2.1.length+315:=by rw [List.length_append,p2];omega
   have hnl:nx.q.1.length≤1048576:=Nat.le_trans H.tq.q.1 (by decide);have e6:=GV (ln w2 (w2.2.2.2.1++dY w2.2.2.1 f.1 said)) f.1 nx (by show w2.2.1.length≤_;rw [p3];omega) (by show (w2.2.2.2.1++dY w2.2.2.1 f.1 said).length≤_;omega) hnl;refine ⟨0,ln (ln w2 (w2.2.2.2.1++dY w2.2.2.1 f.1 said)) ((w2.2.2.2.1++dY w2.2.2.1 f.1 said)++[iX (jL w2.1 w2.2.1 f.1) nx]),?_,?_,hW2.Rq (fun g hg => ?_) ?_,?_⟩
   ·subst UC;rw [e2];simp only [Option.bind_some,Bool.not_true,cond_false];rw [e3];simp only [Option.bind_some];have e4':=e4;simp only [e4,bN,Option.bind_some];rw [show f.2.1=true from ht] at e4;rw [e4];simp only [Option.bind_some];rw [e5];simp only [Option.bind_some];rw [e6];rfl
   ·have ala:m'.1=f.1:=H.id.1.trans Hi;have hd:List.drop (said.length-j) said=Ad f said:=RC.symm;have t1:=C6 (uB w k m') m'.1 said hW.len hW.ids q0 (by show w.2.2.2.1.length≤_;omega) (by omega);have t1:eB w.1 w.2.1 (w.2.2.1.set k m') w.2.2.2.1 w.2.2.2.2.1 w.q.1 m'.1 said=some (w.1,w.2.1,w.2.2.1.set k m',w.2.2.2.1++dY (w.2.2.1.set k m') m'.1 said,w.2.2.2.2.1,w.q.1,()):=t1;have hl7:(w.2.2.2.1++dY (w.2.2.1.set k m') m'.1 said).length≤2147483648:=by
     have:=oP (w.2.2.1.set k m') m'.1 5 (by rw [List.length_set];exact q1) said;rw [List.length_append];omega
    have t2:=Jw (ln (uB w k m') (w.2.2.2.1++dY (w.2.2.1.set k m') m'.1 said)) m'.1 nx (by show w.2.1.length≤_;omega) hl7 hnl;have t2:gX w.1 w.2.1 (w.2.2.1.set k m') (w.2.2.2.1++dY (w.2.2.1.set k m') m'.1 said) w.2.2.2.2.1 w.q.1 m'.1 nx.1 nx.2.1 nx.2.2.1 nx.2.2.2.1 nx.2.2.2.2.1 nx.q.1=some (w.1,w.2.1,w.2.2.1.set k m',(w.2.2.2.1++dY (w.2.2.1.set k m') m'.1 said)++[iX (jL w.1 w.2.1 m'.1) nx],w.2.2.2.2.1,w.q.1,()):=t2;have hwr:IntKind.i64.wrap (((said.length:Nat):Int)-((j:Nat):Int))=((said.length-j:Nat):Int):=by rw [dk]<;>omega
    subst UC;rw [i2];have t1:eB w.1 w.2.1 (w.2.2.1.set k (m'.1,m'.2.1,m'.2.2.1,m'.2.2.2.1,m'.2.2.2.2.1,m'.q.1,m'.q.2.1,m'.q.2.2.1,m'.q.2.2.2.1,m'.q.2.2.2.2.1,m'.q.q.1,m'.q.q.2.1,m'.q.q.2.2.1,m'.q.q.2.2.2.1,m'.q.q.2.2.2.2.1,m'.q.q.q.1,())) w.2.2.2.1 w.2.2.2.2.1 w.q.1 m'.1 said=_:=t1;simp only [Option.bind_some,Bool.not_true,cond_false,t1,t2];simp only [hwr,aw,cond_true,aC,aj (show ((said.length-j:Nat):Int)≤((said.length:Nat):Int) by omega),hd,aQ (show (w.q.1.length+(Ad f said).length)*40≤lim by unfold lim;omega)];rw [←UB,ala];rfl
   ·rcases List.mem_append.1 hg with hg | hg
    ·rcases List.mem_append.1 hg with hg | hg
     ·rw [p2] at hg;exact h.lR g hg
     ·exact Jy g hg
    ·rw [List.mem_singleton] at hg;subst hg;exact hnl
   ·rw [List.length_append,List.length_singleton];omega
   ·subst UC;rw [←UB];exact .held k hk Hi ht m' said j nx hT hh.2.2.2.1 H
end Go.TM
