/- The world's life, as the reference plays it: deeds. -/
import Derived.Test.YtlgnmloddedbaaaGreatGPHold
set_option linter.unusedSimpArgs false
set_option linter.unusedVariables false
namespace Go.TM
open Go
structure NN (x:uR):Prop where
 to_:1≤x.2.1∧x.2.1≤5
 Tu:x.q.q.2.2.1.length≤20
 bun:x.q.q.q.2.1.length≤60
structure gY (n:Nat) (w:dj):Prop where
 rings:(∀r∈w.1,oV r.1 r.2.1)∧w.1.length≤9
 ya:w.2.1.length=5
 pV:∀k (hk:k<w.2.1.length),mm n w.2.1[k]∧(w.2.1[k]).1=((k+1:Nat):Int)
 lets:∀x∈w.2.2.1,NN x
 E8:w.2.2.1.length≤400*(n+1)
 num:w.2.2.2.1.length≤63*n
 nums:∀e∈w.2.2.2.1,NI e
theorem gY.up {n n':Nat} {w:dj} (h:gY n w) (hn:n≤n'):gY n' w:=
 { h with pV:=fun k hk=>⟨(h.pV k hk).1.up hn,(h.pV k hk).2⟩,E8:=by have:=h.E8;omega,num:=by have:=h.num;omega }
theorem gY.pz {n:Nat} {w:dj} (h:gY n w) {k:Nat} (hk:k<w.2.1.length) {d:bQ} (hd:mm n d) (h1:d.1=(w.2.1[k]).1):gY n (pz w k d):=
 {
  rings:=h.rings
  ya:=by show (w.2.1.set k d).length=5;rw [List.length_set];exact h.ya
  pV:=fun j hj=>by
   have hj:j<(w.2.1.set k d).length:=hj;show mm n (w.2.1.set k d)[j]∧((w.2.1.set k d)[j]).1=_;rw [List.length_set] at hj;rw [List.getElem_set]
   split
   ·rename_i e;subst e;exact ⟨hd,h1.trans (h.pV k hk).2⟩
   ·exact h.pV j hj
  lets:=h.lets
  E8:=h.E8
  num:=h.num
  nums:=h.nums }
theorem gY.dW {n:Nat} {w:dj} (h:gY n w) {l:List uR} (h1:∀x∈l,NN x) (h2:l.length≤400*(n+1)):gY n (dW w l):=
 { rings:=h.rings,ya:=h.ya,pV:=h.pV,lets:=h1,E8:=h2,num:=h.num,nums:=h.nums }
theorem gY.xi {n:Nat} {w:dj} (h:gY n w) {l:List sf} (h2:l.length≤63*n) (h3:∀e∈l,NI e):gY n (xi w l):=
 { rings:=h.rings,ya:=h.ya,pV:=h.pV,lets:=h.lets,E8:=h.E8,num:=h2,nums:=h3 }
theorem V5 {to_ c:Int} {x:ez} (h:1≤to_∧to_≤5):NN (Fj to_ c x):=⟨h,Nat.zero_le _,Nat.zero_le _⟩
theorem J0 {to_ c:Int} {t:gN} (h:1≤to_∧to_≤5) (ht:t.q.1.length≤20):NN (jt to_ c t):=⟨h,ht,Nat.zero_le _⟩
theorem ZI {to_ c:Int} {b:eC} (h:1≤to_∧to_≤5) (hb:b.2.2.2.1.length≤60):NN (s5 to_ c b):=⟨h,Nat.zero_le _,hb⟩
theorem NO {c:Int} {ms:cG} (hr:oV c ms) {id:Int} {l:aZ}:∀x∈bZ ms c id l,NN x:=fun x hx=>by
 obtain ⟨m,hm,y,_,rfl⟩:=JZ hx;obtain ⟨k,hk,rfl⟩:=List.mem_iff_getElem.1 hm;exact V5 (hr.2.2 k hk hk).1
def jI (c:Int) (ms:cG) (t:gN) (l:aZ):List sf:=eA c ms (l.filter fun x=>decide (t.2.2.1<x.1))
theorem Ml (c:Int) (ms:cG) (t:gN) (l:aZ):(jI c ms t l).length≤l.length:=by
 unfold jI;rw [nD];exact List.length_filter_le _ _
theorem KS (w:dj) (id:Int) (t nx:gN) (l:aZ) (c:Int) (ms:cG) (h1:w.2.2.2.1.length≤1048576) (h2:l.length≤1048576) (h3:ms.length≤1048576) :
  aI fN (w.1,w.2.1,w.2.2.1,w.2.2.2.1,id,t.1,t.2.1,t.2.2.1,t.2.2.2.1,t.2.2.2.2.1,t.q.1,l,nx.1,nx.2.1,nx.2.2.1,nx.2.2.2.1,nx.2.2.2.2.1,nx.q.1,c,ms,(0:Int),())=some (.inl ((xi w (w.2.2.2.1++jI c ms t l)).1,(xi w (w.2.2.2.1++jI c ms t l)).2.1,(xi w (w.2.2.2.1++jI c ms t l)).2.2.1,(xi w (w.2.2.2.1++jI c ms t l)).2.2.2.1,id,l,nx.1,nx.2.1,nx.2.2.1,nx.2.2.2.1,nx.2.2.2.2.1,nx.q.1,c,ms,())):=by
 have l1:=bP (round:=fN) (e:=.inl ((xi w (w.2.2.2.1++jI c ms t l)).1,(xi w (w.2.2.2.1++jI c ms t l)).2.1,(xi w (w.2.2.2.1++jI c ms t l)).2.2.1,(xi w (w.2.2.2.1++jI c ms t l)).2.2.2.1,id,l,nx.1,nx.2.1,nx.2.2.1,nx.2.2.2.1,nx.2.2.2.2.1,nx.q.1,c,ms,())) l.length (fun k=>((xi w (w.2.2.2.1++jI c ms t (l.take k))).1,(xi w (w.2.2.2.1++jI c ms t (l.take k))).2.1,(xi w (w.2.2.2.1++jI c ms t (l.take k))).2.2.1,(xi w (w.2.2.2.1++jI c ms t (l.take k))).2.2.2.1,id,t.1,t.2.1,t.2.2.1,t.2.2.2.1,t.2.2.2.2.1,t.q.1,l,nx.1,nx.2.1,nx.2.2.1,nx.2.2.2.1,nx.2.2.2.2.1,nx.q.1,c,ms,((k:Nat):Int),())) (by
  simp only [fN,aX,ax,lZ,aF,aJ,cond_false,List.take_length]) (fun k hk=>by
  have hb:=Ml c ms t (l.take k);rw [List.length_take] at hb;have e:jI c ms t (l.take (k+1))=jI c ms t (l.take k)++(bif decide (t.2.2.1<(l[k]).1) then [(1,c,ms,(l[k]).1,(l[k]).2.1,(l[k]).2.2.1,(l[k]).2.2.2.1,[],())] else []):=by
   unfold jI eA;rw [List.take_succ_eq_append_getElem hk,List.filter_append,List.map_append,List.filter_cons,List.filter_nil]
   cases decide (t.2.2.1<(l[k]).1)<;>rfl
  simp only [xi,e,fN,aX,ax,lZ,aF,aD hk,au,cond_true,aC,cw hk,List.getElem?_eq_getElem hk,Option.bind_some,nE c ms h3,List.nil_append,aW (show (0+(w.2.2.2.1++jI c ms t (l.take k)).length)*104≤lim by rw [List.length_append];unfold lim;omega),aW (show ((w.2.2.2.1++jI c ms t (l.take k)).length+1)*104≤lim by rw [List.length_append];unfold lim;omega),dv,aH (show k<4611686018427387904 by omega)]
  cases decide (t.2.2.1<(l[k]).1)
  ·simp only [cond_false,List.append_nil]
  ·simp only [cond_true,List.append_assoc])
 have l1:aI fN ((xi w (w.2.2.2.1++jI c ms t (l.take 0))).1,(xi w (w.2.2.2.1++jI c ms t (l.take 0))).2.1,(xi w (w.2.2.2.1++jI c ms t (l.take 0))).2.2.1,(xi w (w.2.2.2.1++jI c ms t (l.take 0))).2.2.2.1,id,t.1,t.2.1,t.2.2.1,t.2.2.2.1,t.2.2.2.2.1,t.q.1,l,nx.1,nx.2.1,nx.2.2.1,nx.2.2.2.1,nx.2.2.2.2.1,nx.q.1,c,ms,(0:Int),())=_:=l1;rw [show jI c ms t (l.take 0)=[] from rfl,List.append_nil] at l1;exact l1
theorem Da (d:bQ) (t:gN) (m:ia) (said:aZ) (k:Int) (nx:gN) (b:Bool) (r:bQ) (p2:dP d.1 d.2.1 d.2.2.1 d.2.2.2.1 d.2.2.2.2.1 d.q.1 d.q.2.1 d.q.2.2.1 d.q.2.2.2.1 d.q.2.2.2.2.1 d.q.q.1 d.q.q.2.1 d.q.q.2.2.1 d.q.q.2.2.2.1 d.q.q.2.2.2.2.1 d.q.q.q.1 d.q.q.q.2.1 d.q.q.q.2.2.1 d.q.q.q.2.2.2.1 d.q.q.q.2.2.2.2.1 d.q.q.q.q.1 d.q.q.q.q.2.1 d.q.q.q.q.2.2.1 d.q.q.q.q.2.2.2.1=some d) (k2:du d.1 d.2.1 d.2.2.1 d.2.2.2.1 d.2.2.2.2.1 d.q.1 d.q.2.1 d.q.2.2.1 d.q.2.2.2.1 d.q.2.2.2.2.1 d.q.q.1 d.q.q.2.1 d.q.q.2.2.1 d.q.q.2.2.2.1 d.q.q.2.2.2.2.1 d.q.q.q.1 d.q.q.q.2.1 d.q.q.q.2.2.1 d.q.q.q.2.2.2.1 d.q.q.q.2.2.2.2.1 d.q.q.q.q.1 d.q.q.q.q.2.1 d.q.q.q.q.2.2.1 d.q.q.q.q.2.2.2.1=some (kj d,())) (hq:(!decide (d.2.2.2.1=0)&&decide (d.q.q.q.q.1=0)&&kj d)=eO d) (c2:mf d.2.2.1 d.2.2.2.1 d.2.2.2.2.1 d.q.1 d.q.2.1 d.q.2.2.1 d.q.2.2.2.1 d.q.2.2.2.2.1 d.q.q.1 d.q.q.2.1 d.q.q.2.2.1 d.q.q.2.2.2.1 d.q.q.2.2.2.2.1 d.q.q.q.1 d.q.q.q.2.1 d.q.q.q.2.2.1 t.1 t.2.1 t.2.2.1 t.2.2.2.1 t.2.2.2.2.1 t.q.1=some (m.1,m.2.1,m.2.2.1,m.2.2.2.1,m.2.2.2.2.1,m.q.1,m.q.2.1,m.q.2.2.1,m.q.2.2.2.1,m.q.2.2.2.2.1,m.q.q.1,m.q.q.2.1,m.q.q.2.2.1,m.q.q.2.2.2.1,m.q.q.2.2.2.2.1,m.q.q.q.1,said,k,nx.1,nx.2.1,nx.2.2.1,nx.2.2.2.1,nx.2.2.2.2.1,nx.q.1,b,()))
  (e2:b=true→gG d.1 d.2.1 m.1 m.2.1 m.2.2.1 m.2.2.2.1 m.2.2.2.2.1 m.q.1 m.q.2.1 m.q.2.2.1 m.q.2.2.2.1 m.q.2.2.2.2.1 m.q.q.1 m.q.q.2.1 m.q.q.2.2.1 m.q.q.2.2.2.1 m.q.q.2.2.2.2.1 m.q.q.q.1 d.q.q.q.2.2.2.1 d.q.q.q.2.2.2.2.1 d.q.q.q.q.1 d.q.q.q.q.2.1 d.q.q.q.q.2.2.1 d.q.q.q.q.2.2.2.1=some r):eW d.1 d.2.1 d.2.2.1 d.2.2.2.1 d.2.2.2.2.1 d.q.1 d.q.2.1 d.q.2.2.1 d.q.2.2.2.1 d.q.2.2.2.2.1 d.q.q.1 d.q.q.2.1 d.q.q.2.2.1 d.q.q.2.2.2.1 d.q.q.2.2.2.2.1 d.q.q.q.1 d.q.q.q.2.1 d.q.q.q.2.2.1 d.q.q.q.2.2.2.1 d.q.q.q.2.2.2.2.1 d.q.q.q.q.1 d.q.q.q.q.2.1 d.q.q.q.q.2.2.1 d.q.q.q.q.2.2.2.1 t.1 t.2.1 t.2.2.1 t.2.2.2.1 t.2.2.2.2.1 t.q.1=bif eO d&&b then some (r.1,r.2.1,r.2.2.1,r.2.2.2.1,r.2.2.2.2.1,r.q.1,r.q.2.1,r.q.2.2.1,r.q.2.2.2.1,r.q.2.2.2.2.1,r.q.q.1,r.q.q.2.1,r.q.q.2.2.1,r.q.q.2.2.2.1,r.q.q.2.2.2.2.1,r.q.q.q.1,r.q.q.q.2.1,r.q.q.q.2.2.1,r.q.q.q.2.2.2.1,r.q.q.q.2.2.2.2.1,r.q.q.q.q.1,r.q.q.q.q.2.1,r.q.q.q.q.2.2.1,r.q.q.q.q.2.2.2.1,said,k,nx.1,nx.2.1,nx.2.2.1,nx.2.2.2.1,nx.2.2.2.2.1,nx.q.1,true,()) else some (d.1,d.2.1,d.2.2.1,d.2.2.2.1,d.2.2.2.2.1,d.q.1,d.q.2.1,d.q.2.2.1,d.q.2.2.2.1,d.q.2.2.2.2.1,d.q.q.1,d.q.q.2.1,d.q.q.2.2.1,d.q.q.2.2.2.1,d.q.q.2.2.2.2.1,d.q.q.q.1,d.q.q.q.2.1,d.q.q.q.2.2.1,d.q.q.q.2.2.2.1,d.q.q.q.2.2.2.2.1,d.q.q.q.q.1,d.q.q.q.q.2.1,d.q.q.q.q.2.2.1,d.q.q.q.q.2.2.2.1,[],(0:Int),(0:Int),(0:Int),(0:Int),(0:Int),(0:Int),[],false,()):=by
 unfold eW ej;delta aX aA aP bf dz;rw [p2,Option.bind_some,←hq]
 cases decide (d.2.2.2.1=0)
 ·cases decide (d.q.q.q.q.1=0)
  ·rfl
  ·simp only [Bool.not_false,cond_true,Option.bind_some,Bool.not_true,cond_false,k2,Bool.true_and]
   cases kj d
   ·rfl
   ·cases b
    ·simp only [Bool.not_true,cond_false,c2,Option.bind_some,Bool.not_false,cond_true,Bool.and_false]
    ·simp only [Bool.not_true,cond_false,c2,Option.bind_some,e2 rfl,Bool.and_self,cond_true]
 ·rfl
abbrev acK (d:bQ) (t:gN):Prop:=eW d.1 d.2.1 d.2.2.1 d.2.2.2.1 d.2.2.2.2.1 d.q.1 d.q.2.1 d.q.2.2.1 d.q.2.2.2.1 d.q.2.2.2.2.1 d.q.q.1 d.q.q.2.1 d.q.q.2.2.1 d.q.q.2.2.2.1 d.q.q.2.2.2.2.1 d.q.q.q.1 d.q.q.q.2.1 d.q.q.q.2.2.1 d.q.q.q.2.2.2.1 d.q.q.q.2.2.2.2.1 d.q.q.q.q.1 d.q.q.q.q.2.1 d.q.q.q.q.2.2.1 d.q.q.q.q.2.2.2.1 t.1 t.2.1 t.2.2.1 t.2.2.2.1 t.2.2.2.2.1 t.q.1=some (d.1,d.2.1,d.2.2.1,d.2.2.2.1,d.2.2.2.2.1,d.q.1,d.q.2.1,d.q.2.2.1,d.q.2.2.2.1,d.q.2.2.2.2.1,d.q.q.1,d.q.q.2.1,d.q.q.2.2.1,d.q.q.2.2.2.1,d.q.q.2.2.2.2.1,d.q.q.q.1,d.q.q.q.2.1,d.q.q.q.2.2.1,d.q.q.q.2.2.2.1,d.q.q.q.2.2.2.2.1,d.q.q.q.q.1,d.q.q.q.q.2.1,d.q.q.q.q.2.2.1,d.q.q.q.q.2.2.2.1,[],(0:Int),(0:Int),(0:Int),(0:Int),(0:Int),(0:Int),[],false,())
theorem V6 {n:Nat} {d:bQ} (h:mm n d) (hn:n≤100) (t:gN) (hw:t.q.1.length≤1048576):∃(r:bQ) (said:aZ) (nx:gN) (b:Bool),gV d.1 d.2.1 d.2.2.1 d.2.2.2.1 d.2.2.2.2.1 d.q.1 d.q.2.1 d.q.2.2.1 d.q.2.2.2.1 d.q.2.2.2.2.1 d.q.q.1 d.q.q.2.1 d.q.q.2.2.1 d.q.q.2.2.2.1 d.q.q.2.2.2.2.1 d.q.q.q.1 d.q.q.q.2.1 d.q.q.q.2.2.1 d.q.q.q.2.2.2.1 d.q.q.q.2.2.2.2.1 d.q.q.q.q.1 d.q.q.q.q.2.1 d.q.q.q.q.2.2.1 d.q.q.q.q.2.2.2.1 t.1 t.2.1 t.2.2.1 t.2.2.2.1 t.2.2.2.2.1 t.q.1=some (r.1,r.2.1,r.2.2.1,r.2.2.2.1,r.2.2.2.2.1,r.q.1,r.q.2.1,r.q.2.2.1,r.q.2.2.2.1,r.q.2.2.2.2.1,r.q.q.1,r.q.q.2.1,r.q.q.2.2.1,r.q.q.2.2.2.1,r.q.q.2.2.2.2.1,r.q.q.q.1,r.q.q.q.2.1,r.q.q.q.2.2.1,r.q.q.q.2.2.2.1,r.q.q.q.2.2.2.2.1,r.q.q.q.q.1,r.q.q.q.q.2.1,r.q.q.q.q.2.2.1,r.q.q.q.q.2.2.2.1,said,nx.1,nx.2.1,nx.2.2.1,nx.2.2.2.1,nx.2.2.2.2.1,nx.q.1,b,())∧mm (n+1) r∧r.1=d.1∧
  (b=false→r=d∧(eO d=false∨E9 (az d) t=false)∧acK d t)∧(b=true→eO d=true∧E9 (az d) t=true∧Gf t∧∃(m:ia) (k:Nat),Zx (az d) t m said k nx∧r=ed (bE d m)∧eW d.1 d.2.1 d.2.2.1 d.2.2.2.1 d.2.2.2.2.1 d.q.1 d.q.2.1 d.q.2.2.1 d.q.2.2.2.1 d.q.2.2.2.2.1 d.q.q.1 d.q.q.2.1 d.q.q.2.2.1 d.q.q.2.2.2.1 d.q.q.2.2.2.2.1 d.q.q.q.1 d.q.q.q.2.1 d.q.q.q.2.2.1 d.q.q.q.2.2.2.1 d.q.q.q.2.2.2.2.1 d.q.q.q.q.1 d.q.q.q.q.2.1 d.q.q.q.q.2.2.1 d.q.q.q.q.2.2.2.1 t.1 t.2.1 t.2.2.1 t.2.2.2.1 t.2.2.2.2.1 t.q.1=some (r.1,r.2.1,r.2.2.1,r.2.2.2.1,r.2.2.2.2.1,r.q.1,r.q.2.1,r.q.2.2.1,r.q.2.2.2.1,r.q.2.2.2.2.1,r.q.q.1,r.q.q.2.1,r.q.q.2.2.1,r.q.q.2.2.2.1,r.q.q.2.2.2.2.1,r.q.q.q.1,r.q.q.q.2.1,r.q.q.q.2.2.1,r.q.q.q.2.2.2.1,r.q.q.q.2.2.2.2.1,r.q.q.q.q.1,r.q.q.q.q.2.1,r.q.q.q.q.2.2.1,r.q.q.q.q.2.2.2.1,said,((k:Nat):Int),nx.1,nx.2.1,nx.2.2.1,nx.2.2.2.1,nx.2.2.2.2.1,nx.q.1,true,())):=by
 have hW:=h.small hn;obtain ⟨k1,k2,_⟩:=pR d hW;obtain ⟨p1,p2⟩:=vz d hW;have hwm:mP (az d)≤1048576:=Nat.le_trans (Zm d) hW
 cases hb:E9 (az d) t
 ·obtain ⟨c2,c1⟩:=abw (az d) t hwm hw hb;have e1:=Fc d t (az d) [] ((0:Int),(0:Int),(0:Int),(0:Int),(0:Int),[],()) false d p1 (vQ d hW) c1 (fun e=>by cases e);have e2:=Da d t ((0:Int),(0:Int),[],[],[],[],(0:Int),(0:Int),(0:Int),(0:Int),(0:Int),(0:Int),(0:Int),(0:Int),(0:Int),[],()) [] (0:Int) ((0:Int),(0:Int),(0:Int),(0:Int),(0:Int),[],()) false d p2 k2 (Aw d hW) c2 (fun e=>by cases e);rw [Bool.and_false,cond_false] at e1 e2;exact ⟨d,[],((0:Int),(0:Int),(0:Int),(0:Int),(0:Int),[],()),false,e1,h.up (Nat.le_succ n),rfl,fun _=>⟨rfl,.inr rfl,e2⟩,fun e=>by cases e⟩
 ·have uY:=hb;unfold E9 at uY;simp only [Bool.and_eq_true,decide_eq_true_eq] at uY;obtain ⟨b1,b2,b3,b4,b5⟩:=uY;have hm:=(uO (az d) hwm).2.2.1 b1;have ht:=(Gg t hw).2.2.1 b2;obtain ⟨m,said,k,nx,hh,c2,c1⟩:=abt (az d) t hm ht b3 b4 b5;have hnW:=hh.nq.small;have hg:d.q.q.q.q.2.2.2.1.length≤1048576:=by unfold nj at hW;omega
  obtain ⟨e1,e2⟩:=JO (bE d m) (show mP m≤1048576 by omega) hg;have s1:=Fc d t m said nx true (ed (bE d m)) p1 (vQ d hW) c1 (fun _=>e1);have s2:=Da d t m said ((k:Nat):Int) nx true (ed (bE d m)) p2 k2 (Aw d hW) c2 (fun _=>e2);rw [Bool.and_true] at s1 s2
  cases hi:eO d
  ·rw [hi,cond_false] at s1 s2;exact ⟨d,[],((0:Int),(0:Int),(0:Int),(0:Int),(0:Int),[],()),false,s1,h.up (Nat.le_succ n),rfl,fun _=>⟨rfl,.inl rfl,s2⟩,fun e=>by cases e⟩
  ·rw [hi,cond_true] at s1 s2;obtain ⟨m1,m2,m3,_⟩:=jZ hW hi;obtain ⟨g1,g2⟩:=PZ (Az h m3 hh.nq (hh.id.1.trans m2) hh.id.2.1) hh.nq (hh.id.1.trans m2) m3;exact ⟨ed (bE d m),said,nx,true,s1,g1,g2,fun e=>(by cases e),fun _=>⟨rfl,rfl,ht,m,k,hh,rfl,s2⟩⟩
inductive NP (w:dj) (k:Nat) (t:gN):Int→dj→Prop
 |no (hk:k<w.2.1.length) (h:acK w.2.1[k] t):NP w k t 1 w
 |yes (hk:k<w.2.1.length) (m:ia) (said:aZ) (j:Nat) (nx:gN) (to_:Int) (hi:eO w.2.1[k]=true) (hb:E9 (az w.2.1[k]) t=true) (hT:Gf t) (H:Zx (az w.2.1[k]) t m said j nx) (ht:ig (az w.2.1[k]).2.1 (az w.2.1[k]).2.2.1 ((k+1:Nat):Int)=some (to_,()))
   (hI:eW (w.2.1[k]).1 (w.2.1[k]).2.1 (w.2.1[k]).2.2.1 (w.2.1[k]).2.2.2.1 (w.2.1[k]).2.2.2.2.1 (w.2.1[k]).q.1 (w.2.1[k]).q.2.1 (w.2.1[k]).q.2.2.1 (w.2.1[k]).q.2.2.2.1 (w.2.1[k]).q.2.2.2.2.1 (w.2.1[k]).q.q.1 (w.2.1[k]).q.q.2.1 (w.2.1[k]).q.q.2.2.1 (w.2.1[k]).q.q.2.2.2.1 (w.2.1[k]).q.q.2.2.2.2.1 (w.2.1[k]).q.q.q.1 (w.2.1[k]).q.q.q.2.1 (w.2.1[k]).q.q.q.2.2.1 (w.2.1[k]).q.q.q.2.2.2.1 (w.2.1[k]).q.q.q.2.2.2.2.1 (w.2.1[k]).q.q.q.q.1 (w.2.1[k]).q.q.q.q.2.1 (w.2.1[k]).q.q.q.q.2.2.1 (w.2.1[k]).q.q.q.q.2.2.2.1 t.1 t.2.1 t.2.2.1 t.2.2.2.1 t.2.2.2.2.1 t.q.1=some ((ed (bE w.2.1[k] m)).1,(ed (bE w.2.1[k] m)).2.1,(ed (bE w.2.1[k] m)).2.2.1,(ed (bE w.2.1[k] m)).2.2.2.1,(ed (bE w.2.1[k] m)).2.2.2.2.1,(ed (bE w.2.1[k] m)).q.1,(ed (bE w.2.1[k] m)).q.2.1,(ed (bE w.2.1[k] m)).q.2.2.1,(ed (bE w.2.1[k] m)).q.2.2.2.1,(ed (bE w.2.1[k] m)).q.2.2.2.2.1,(ed (bE w.2.1[k] m)).q.q.1,(ed (bE w.2.1[k] m)).q.q.2.1,(ed (bE w.2.1[k] m)).q.q.2.2.1,(ed (bE w.2.1[k] m)).q.q.2.2.2.1,(ed (bE w.2.1[k] m)).q.q.2.2.2.2.1,(ed (bE w.2.1[k] m)).q.q.q.1,(ed (bE w.2.1[k] m)).q.q.q.2.1,(ed (bE w.2.1[k] m)).q.q.q.2.2.1,(ed (bE w.2.1[k] m)).q.q.q.2.2.2.1,(ed (bE w.2.1[k] m)).q.q.q.2.2.2.2.1,(ed (bE w.2.1[k] m)).q.q.q.q.1,(ed (bE w.2.1[k] m)).q.q.q.q.2.1,(ed (bE w.2.1[k] m)).q.q.q.q.2.2.1,(ed (bE w.2.1[k] m)).q.q.q.q.2.2.2.1,said,((j:Nat):Int),nx.1,nx.2.1,nx.2.2.1,nx.2.2.2.1,nx.2.2.2.2.1,nx.q.1,true,())) :
   NP w k t 0 (w.1,w.2.1.set k (ed (bE w.2.1[k] m)),(w.2.2.1++bZ (az w.2.1[k]).2.2.1 (az w.2.1[k]).2.1 ((k+1:Nat):Int) said)++[jt to_ (az w.2.1[k]).2.1 nx],w.2.2.2.1++jI (az w.2.1[k]).2.1 (az w.2.1[k]).2.2.1 t said,())
theorem Ha {n:Nat} {w:dj} (h:gY n w) (hn:n≤99) {k:Nat} (hk:k<w.2.1.length) (t:gN) (ht:t.q.1.length≤1048576):∃a w',iP w.1 w.2.1 w.2.2.1 w.2.2.2.1 ((k+1:Nat):Int) t.1 t.2.1 t.2.2.1 t.2.2.2.1 t.2.2.2.2.1 t.q.1=some (a,w'.1,w'.2.1,w'.2.2.1,w'.2.2.2.1,())∧gY (n+1) w'∧NP w k t a w':=by
 have hf:=h.E8;have aob:=h.num;have h5:=h.ya;obtain ⟨r,said,nx,b,e1,g,g1,gf,gt⟩:=V6 (h.pV k hk).1 (by omega) t ht;unfold iP;delta aA ax aP aF bF;simp only [ee (show k<1000 by omega),au,cond_true,aC,List.getElem?_eq_getElem hk,Option.bind_some,e1]
 cases b
 ·exact ⟨1,w,rfl,h.up (Nat.le_succ n),.no hk (gf rfl).2.2⟩
 obtain ⟨hi,hbt,hT,m,j,H,hr,hI⟩:=gt rfl;have hm1:=H.nq;have hlen:said.length≤63:=by
  rw [H.said,List.length_append,py];have h1:(qX t (az w.2.1[k]).2.2.2.1).length≤(az w.2.1[k]).2.2.2.1.length:=List.length_filter_le _ _;have h2:=(di _ (jZ ((h.pV k hk).1.small (by omega)) hi).1.items).1;have:=H.E8.1;omega
 have hq:gY (n+1) (pz w k r):=(h.up (Nat.le_succ n)).pz hk g g1;have awc:r.1=((k+1:Nat):Int):=g1.trans (h.pV k hk).2;have e3:=qK w (by omega) hk r awc;have P6:r.2.2.2.1=m.2.1∧r.2.2.2.2.1=m.2.2.1:=by
  rw [hr];unfold ed;obtain ⟨q,_,e,_⟩:=Ch (m:=az (bE w.2.1[k] m)) hm1;rw [e];exact ⟨rfl,rfl⟩
 have hRP:oV r.2.2.2.1 r.2.2.2.2.1:=by rw [P6.1,P6.2];exact hm1.ring
 have Ef:(((k+1:Nat):Int),())∈r.2.2.2.2.1:=by
  have h1:=hm1.mem;rw [H.id.1] at h1;have h2:=(jZ ((h.pV k hk).1.small (by omega)) hi).2.1;have h2:(az w.2.1[k]).1=(w.2.1[k]).1:=h2;rw [h2,(h.pV k hk).2] at h1;rw [P6.2];exact h1
 have e4:=KS (pz w k r) ((k+1:Nat):Int) t nx said r.2.2.2.1 r.2.2.2.2.1 (by show w.2.2.2.1.length≤_;omega) (by omega) (by have:=hRP.2.1.2;omega);have hN:=Ml r.2.2.2.1 r.2.2.2.2.1 t said;generalize SZ:xi (pz w k r) ((pz w k r).2.2.2.1++jI r.2.2.2.1 r.2.2.2.2.1 t said)=w1 at e4;have WW:gY (n+1) w1:=by
  rw [←SZ];refine hq.xi ?_ fun e he => ?_
  ·show (w.2.2.2.1++_).length≤_;rw [List.length_append];omega
  ·have he:e∈w.2.2.2.1++jI r.2.2.2.1 r.2.2.2.2.1 t said:=he;rcases List.mem_append.1 he with he | he
   ·exact h.nums e he
   ·refine NK hRP.2.1.2 (fun x hx => ?_) e he;have hx:=(List.mem_filter.1 hx).1;rw [H.said] at hx;have hmQ:=(jZ ((h.pV k hk).1.small (by omega)) hi).1;rcases List.mem_append.1 hx with hx | hx
    ·exact (sY hmQ.items x (Zv hx)).2.2.2
    ·exact (G6 ⟨hT.2.2.1.1,H.E8.2.2⟩ hmQ.id H.E8.2.1 hmQ.short x hx).2.2.2
 have p3:w1.2.2.1=w.2.2.1:=by rw [←SZ];rfl
 have e5:=Mj w1 r.2.2.2.1 r.2.2.2.2.1 ((k+1:Nat):Int) said hRP.2.1.2 (by rw [p3];omega) (by omega);have Ym:=s6 r.2.2.2.2.1 r.2.2.2.1 ((k+1:Nat):Int) hRP.2.1.2 said;obtain ⟨to_,lf,RX,e6⟩:=Mk (dW w1 (w1.2.2.1++bZ r.2.2.2.2.1 r.2.2.2.1 ((k+1:Nat):Int) said)) hRP Ef nx (by show (w1.2.2.1++bZ _ _ _ _).length≤_;rw [List.length_append,p3];omega) (Nat.le_trans H.tq.q.1 (by decide));refine ⟨0,dW (dW w1 (w1.2.2.1++bZ r.2.2.2.2.1 r.2.2.2.1 ((k+1:Nat):Int) said)) ((w1.2.2.1++bZ r.2.2.2.2.1 r.2.2.2.1 ((k+1:Nat):Int) said)++[jt to_ r.2.2.2.1 nx]),?_,?_,?_⟩
 ·simp only [Bool.not_true,cond_false];rw [e3];simp only [Option.bind_some];rw [e4];simp only [bU,Option.bind_some];rw [e5];simp only [Option.bind_some];rw [e6];rfl
 ·refine gY.dW (w:=dW w1 _) (WW.dW (fun x hx => ?_) ?_) (fun x hx => ?_) ?_
  ·rcases List.mem_append.1 hx with hx | hx
   ·exact WW.lets x hx
   ·exact NO hRP x hx
  ·rw [List.length_append,p3];omega
  ·rcases List.mem_append.1 hx with hx | hx
   ·rcases List.mem_append.1 hx with hx | hx
    ·exact WW.lets x hx
    ·exact NO hRP x hx
   ·rw [List.mem_singleton] at hx;subst hx;exact J0 lf H.tq.q.1
  ·rw [List.length_append,List.length_append,p3,List.length_singleton];omega
 ·have q1:r.2.2.2.1=(az w.2.1[k]).2.1:=P6.1.trans H.id.2.1;have q2:r.2.2.2.2.1=(az w.2.1[k]).2.2.1:=P6.2.trans H.id.2.2;rw [←SZ];rw [q1,q2] at RX ⊢;rw [hr] at hI ⊢;exact .yes hk m said j nx to_ hi hbt hT H RX hI
theorem V7 {d:bQ} {ms:cG} {b x:eC} (h:x∈iZ d ms b):x=b:=by
 obtain ⟨_,_,rfl⟩:=List.mem_map.1 h;rfl
theorem V8 (d:bQ) (ms:cG) (b:eC) {j:Nat} (hj:j<ms.length) (mn:¬ms[j].1=d.1):(iZ d (ms.take j) b).length<(iZ d ms b).length:=by
 have h1:=DZ d ms b hj;rw [decide_eq_false mn] at h1;have h2:(iZ d (ms.take (j+1)) b).length=(iZ d (ms.take j) b).length+1:=by rw [h1];simp
 have h3:(iZ d (ms.take (j+1)) b).length≤(iZ d ms b).length:=by
  unfold iZ;rw [List.length_map,List.length_map];exact ((List.take_sublist (j+1) ms).filter _).length_le
 omega
def fA (ms:cG) (id c:Int) (b:eC):List uR:=(ms.filter fun m => !decide (m.1=id)).map fun m=>s5 m.1 c b
theorem P7 (ms:cG) (id c:Int) (b:eC) {k:Nat} (hk:k<ms.length):fA (ms.take (k+1)) id c b=fA (ms.take k) id c b++(bif !decide (ms[k].1=id) then [s5 ms[k].1 c b] else []):=by
 unfold fA;rw [List.take_succ_eq_append_getElem hk,List.filter_append,List.map_append,List.filter_cons,List.filter_nil]
 cases decide (ms[k].1=id)<;>rfl
theorem J1 (ms:cG) (id c:Int) (b:eC):(fA ms id c b).length≤ms.length:=by
 unfold fA;rw [List.length_map];exact List.length_filter_le _ _
theorem J2 {ms:cG} {id c:Int} {b:eC} {x:uR} (h:x∈fA ms id c b):∃m∈ms,x=s5 m.1 c b:=by
 unfold fA at h;obtain ⟨m,hm,rfl⟩:=List.mem_map.1 h;exact ⟨m,(List.mem_filter.1 hm).1,rfl⟩
theorem Sa {n:Nat} {w:dj} (h:gY n w) (hn:n≤100) (d:bQ) (b:eC) {c:Int} {ms:cG} (hr:oV c ms) :
  aI jn (w.1,w.2.1,w.2.2.1,w.2.2.2.1,d.1,c,ms,iZ d ms b,(0:Int),(0:Int),())=some (.inl ((dW w (w.2.2.1++fA ms d.1 c b)).1,(dW w (w.2.2.1++fA ms d.1 c b)).2.1,(dW w (w.2.2.1++fA ms d.1 c b)).2.2.1,(dW w (w.2.2.1++fA ms d.1 c b)).2.2.2.1,())):=by
 have hf:=h.E8;have hl:=hr.2.1.2;have ht:=Mg d ms b;have l1:=bP (round:=jn) (e:=.inl ((dW w (w.2.2.1++fA ms d.1 c b)).1,(dW w (w.2.2.1++fA ms d.1 c b)).2.1,(dW w (w.2.2.1++fA ms d.1 c b)).2.2.1,(dW w (w.2.2.1++fA ms d.1 c b)).2.2.2.1,())) ms.length
  (fun j=>((dW w (w.2.2.1++fA (ms.take j) d.1 c b)).1,(dW w (w.2.2.1++fA (ms.take j) d.1 c b)).2.1,(dW w (w.2.2.1++fA (ms.take j) d.1 c b)).2.2.1,(dW w (w.2.2.1++fA (ms.take j) d.1 c b)).2.2.2.1,d.1,c,ms,iZ d ms b,(((iZ d (ms.take j) b).length:Nat):Int),((j:Nat):Int),())) (by
   simp only [jn,bz,uu,ax,aF,aJ,cond_false,List.take_length]) (fun j hj=>by
   have e1:=DZ d ms b hj;have e0:=P7 ms d.1 c b hj;have hbl:=J1 (ms.take j) d.1 c b;rw [List.length_take] at hbl;simp only [jn,bz,uu,ax,aF,aD hj,au,cond_true,aC,List.getElem?_eq_getElem hj,Option.bind_some,aH (show j<4611686018427387904 by omega)]
   by_cases g:ms[j].1=d.1
   ·rw [aq g];rw [decide_eq_true g] at e1 e0;have e2:(iZ d (ms.take (j+1)) b).length=(iZ d (ms.take j) b).length:=by rw [e1];simp
    have e3:fA (ms.take (j+1)) d.1 c b=fA (ms.take j) d.1 c b:=by rw [e0];exact List.append_nil _
    rw [e2,e3];rfl
   ·rw [ak g];have hm:=V8 d ms b hj g;have hx:(iZ d ms b)[(iZ d (ms.take j) b).length]=b:=V7 (List.getElem_mem hm);have hs:=Fi (dW w (w.2.2.1++fA (ms.take j) d.1 c b)) (by show (w.2.2.1++fA (ms.take j) d.1 c b).length≤_;rw [List.length_append];omega) (s5 ms[j].1 c b);have hs:fl w.1 w.2.1 (w.2.2.1++fA (ms.take j) d.1 c b) w.2.2.2.1 3 ms[j].1 c 0 0 0 ByteArray.empty 0 0 0 0 0 [] b.1 b.2.1 b.2.2.1 b.2.2.2.1=_:=hs;have e2:(iZ d (ms.take (j+1)) b).length=(iZ d (ms.take j) b).length+1:=by rw [e1,decide_eq_false g];simp
    have e3:fA (ms.take (j+1)) d.1 c b=fA (ms.take j) d.1 c b++[s5 ms[j].1 c b]:=by rw [e0,decide_eq_false g];rfl
    rw [e2,e3];simp only [Bool.not_false,cond_true,cw hm,List.getElem?_eq_getElem hm,Option.bind_some,hx,dW] at hs ⊢;rw [hs];simp only [Option.bind_some,List.append_assoc,aH (show (iZ d (ms.take j) b).length<4611686018427387904 by omega)])
 have l1:aI jn ((dW w (w.2.2.1++fA (ms.take 0) d.1 c b)).1,(dW w (w.2.2.1++fA (ms.take 0) d.1 c b)).2.1,(dW w (w.2.2.1++fA (ms.take 0) d.1 c b)).2.2.1,(dW w (w.2.2.1++fA (ms.take 0) d.1 c b)).2.2.2.1,d.1,c,ms,iZ d ms b,(0:Int),(0:Int),())=_:=l1;rw [show fA (ms.take 0) d.1 c b=[] from rfl,List.append_nil] at l1;exact l1
def yK (d:bQ) (r:Int×cG×Unit):Prop:=¬r.1≤d.q.q.q.2.2.2.1∧(d.1,())∈r.2.1
inductive Gp (w:dj) (k:Nat):Int→dj→Prop
 |none_ (hk:k<w.2.1.length) (hf:∀j (hj:j<w.1.length),¬yK w.2.1[k] w.1[j]):Gp w k 1 w
 |fail (hk:k<w.2.1.length) (i:Nat) (hi:i<w.1.length) (hq:yK w.2.1[k] w.1[i]) (hf:∀j (hj:j<w.1.length),j<i→¬yK w.2.1[k] w.1[j]) (hb:JX w.2.1[k] (w.1[i]).1 (w.1[i]).2.1=false):Gp w k 1 w
 |yes (hk:k<w.2.1.length) (i:Nat) (hi:i<w.1.length) (hq:yK w.2.1[k] w.1[i]) (hf:∀j (hj:j<w.1.length),j<i→¬yK w.2.1[k] w.1[j]) (hb:JX w.2.1[k] (w.1[i]).1 (w.1[i]).2.1=true) :
   Gp w k 0 (w.1,w.2.1.set k (qJ w.2.1[k] (w.1[i]).1 (w.1[i]).2.1),w.2.2.1++fA (w.1[i]).2.1 (w.2.1[k]).1 (w.1[i]).1 (gh w.2.1[k] (w.1[i]).1),w.2.2.2)
theorem Sb {n:Nat} {w:dj} (h:gY n w) (hn:n≤98) {k:Nat} (hk:k<w.2.1.length):∃a w',vm w.1 w.2.1 w.2.2.1 w.2.2.2.1 ((k+1:Nat):Int)=some (a,w'.1,w'.2.1,w'.2.2.1,w'.2.2.2.1,())∧gY (n+1) w'∧Gp w k a w':=by
 have hf:=h.E8;have h5:=h.ya;have hrl:=h.rings.2;obtain ⟨hd,mS⟩:=h.pV k hk;have acL:(∀j (hj:j<w.1.length),¬yK w.2.1[k] w.1[j])→Gp w k 1 w:=fun g=>.none_ hk g
 have acM:=@Gp.fail w k hk;have ZJ:=@Gp.yes w k hk;generalize hdd:w.2.1[k]=d at hd mS acL acM ZJ;unfold vm;delta bf aF;simp only [ee (show k<1000 by omega),au,cond_true,aC,List.getElem?_eq_getElem hk,Option.bind_some,hdd];obtain ⟨e,he,hq⟩:=dU (round:=kz) (x:=(w.1,w.2.1,w.2.2.1,w.2.2.2.1,((k+1:Nat):Int),d.1,d.2.1,d.2.2.1,d.2.2.2.1,d.2.2.2.2.1,d.q.1,d.q.2.1,d.q.2.2.1,d.q.2.2.2.1,d.q.2.2.2.2.1,d.q.q.1,d.q.q.2.1,d.q.q.2.2.1,d.q.q.2.2.2.1,d.q.q.2.2.2.2.1,d.q.q.q.1,d.q.q.q.2.1,d.q.q.q.2.2.1,d.q.q.q.2.2.2.1,d.q.q.q.2.2.2.2.1,d.q.q.q.q.1,d.q.q.q.q.2.1,d.q.q.q.q.2.2.1,d.q.q.q.q.2.2.2.1,((0:Nat):Int),())) w.1.length
  (fun i x=>x=(w.1,w.2.1,w.2.2.1,w.2.2.2.1,((k+1:Nat):Int),d.1,d.2.1,d.2.2.1,d.2.2.2.1,d.2.2.2.2.1,d.q.1,d.q.2.1,d.q.2.2.1,d.q.2.2.2.1,d.q.2.2.2.2.1,d.q.q.1,d.q.q.2.1,d.q.q.2.2.1,d.q.q.2.2.2.1,d.q.q.2.2.2.2.1,d.q.q.q.1,d.q.q.q.2.1,d.q.q.q.2.2.1,d.q.q.q.2.2.2.1,d.q.q.q.2.2.2.2.1,d.q.q.q.q.1,d.q.q.q.q.2.1,d.q.q.q.q.2.2.1,d.q.q.q.q.2.2.2.1,((i:Nat):Int),())∧∀j (hj:j<w.1.length),j<i→¬yK d w.1[j])
  (fun e=>(e=.inl (w.1,w.2.1,w.2.2.1,w.2.2.2.1,())∧∀j (hj:j<w.1.length),¬yK d w.1[j])∨∃a w',e=.inr (w'.1,w'.2.1,w'.2.2.1,w'.2.2.2.1,a,())∧gY (n+1) w'∧Gp w k a w') (by
   rintro x ⟨rfl,g⟩
   exact ⟨_,by simp only [kz,aA,aP,uw,aA,aF,aJ,cond_false],.inl ⟨rfl,fun j hj=>g j hj hj⟩⟩) (by
   rintro i x hi ⟨rfl,g⟩
   have hr:=h.rings.1 _ (List.getElem_mem hi);have hml:(w.1[i]).2.1.length≤1048576:=by have:=hr.2.1.2;omega
   have more:¬yK d w.1[i]→∀j (hj:j<w.1.length),j<i+1→¬yK d w.1[j]:=fun g1 j hj Kc=>by
    by_cases e:j<i
    ·exact g j hj e
    ·have:j=i:=by omega
     subst this;exact g1
   simp only [kz,aA,aP,uw,aA,aF,aD hi,au,cond_true,aC,List.getElem?_eq_getElem hi,Option.bind_some,aH (show i<4611686018427387904 by omega),Ai (w.1[i]).2.1 ((k+1:Nat):Int) hml]
   by_cases g1:(w.1[i]).1≤d.q.q.q.2.2.2.1
   ·rw [aq g1];exact .inr ⟨_,rfl,rfl,more fun q=>q.1 g1⟩
   rw [ak g1]
   by_cases g2:(((k+1:Nat):Int),())∈(w.1[i]).2.1
   ·have e1:=ZC hd (by omega) (w.1[i]).1 (w.1[i]).2.1 hml;have qZ:yK d w.1[i]:=⟨g1,by rw [mS];exact g2⟩;simp only [aq g2,Bool.not_true,cond_false,e1,Option.bind_some]
    cases hb:JX d (w.1[i]).1 (w.1[i]).2.1
    ·have e2:(dG d (w.1[i]).1 (w.1[i]).2.1).2.2=false:=by unfold dG;rw [hb];rfl
     rw [e2];exact .inl ⟨_,rfl,.inr ⟨1,w,rfl,h.up (Nat.le_succ n),acM i hi qZ g hb⟩⟩
    ·have e2:dG d (w.1[i]).1 (w.1[i]).2.1=(qJ d (w.1[i]).1 (w.1[i]).2.1,iZ d (w.1[i]).2.1 (gh d (w.1[i]).1),true):=by unfold dG;rw [hb];rfl
     rw [e2];have uY:=hb;unfold JX at uY;simp only [Bool.and_eq_true,Bool.not_eq_true',decide_eq_true_eq] at uY;obtain ⟨_,b2,_,b4,_⟩:=uY;obtain ⟨m1,m2⟩:=Tx hd hr b4 b2 (by omega);obtain ⟨_,hP,_⟩:=NL hd hr b4 b2 (by omega);have hdw:gY (n+1) (pz w k (qJ d (w.1[i]).1 (w.1[i]).2.1)):=(h.up (Nat.le_succ n)).pz hk m1 (by rw [m2,hdd]);have e3:=qK w (by omega) hk (qJ d (w.1[i]).1 (w.1[i]).2.1) (m2.trans mS);have l1:=Sa hdw (by omega) d (gh d (w.1[i]).1) hr;have hbl:=J1 (w.1[i]).2.1 d.1 (w.1[i]).1 (gh d (w.1[i]).1);have hm5:=hr.2.1.2;have hy:=ZJ i hi qZ g hb;rw [mS] at l1 hy;simp only [Bool.not_true,cond_false];rw [e3];simp only [Option.bind_some];rw [l1];simp only [bU];refine .inl ⟨_,rfl,.inr ⟨0,_,rfl,hdw.dW (fun x hx => ?_) ?_,hy⟩⟩
     ·rcases List.mem_append.1 hx with hx | hx
      ·exact h.lets x hx
      ·obtain ⟨y,hy,rfl⟩:=J2 hx;obtain ⟨q,hq,rfl⟩:=List.mem_iff_getElem.1 hy;exact ZI (hr.2.2 q hq hq).1 (CI hP).1
     ·show (w.2.2.1++fA (w.1[i]).2.1 ((k+1:Nat):Int) (w.1[i]).1 (gh d (w.1[i]).1)).length≤_;rw [mS] at hbl;rw [List.length_append];omega
   ·simp only [ak g2,Bool.not_false,cond_true];exact .inr ⟨_,rfl,rfl,more fun q=>g2 (by have:=q.2;rw [mS] at this;exact this)⟩) ⟨rfl,fun j _ h=>by omega⟩
 have he:aI kz (w.1,w.2.1,w.2.2.1,w.2.2.2.1,((k+1:Nat):Int),d.1,d.2.1,d.2.2.1,d.2.2.2.1,d.2.2.2.2.1,d.q.1,d.q.2.1,d.q.2.2.1,d.q.2.2.2.1,d.q.2.2.2.2.1,d.q.q.1,d.q.q.2.1,d.q.q.2.2.1,d.q.q.2.2.2.1,d.q.q.2.2.2.2.1,d.q.q.q.1,d.q.q.q.2.1,d.q.q.q.2.2.1,d.q.q.q.2.2.2.1,d.q.q.q.2.2.2.2.1,d.q.q.q.q.1,d.q.q.q.q.2.1,d.q.q.q.q.2.2.1,d.q.q.q.q.2.2.2.1,(0:Int),())=some e:=he;rw [he];rcases hq with ⟨rfl,g⟩ | ⟨a,w',rfl,hw⟩
 ·exact ⟨1,w,rfl,h.up (Nat.le_succ n),acL g⟩
 ·exact ⟨a,w',rfl,hw⟩
end Go.TM
