/- The world's life, as the reference plays it: every deed. -/
import Derived.Test.YtlgnmloddedbaaaGreatGPGivL
set_option linter.unusedSimpArgs false
set_option linter.unusedVariables false
namespace Go.TM
open Go
def AA (d:bQ) (id:Int) (l:aZ):aZ:=l.filter fun x=>decide (x.2.1=id)
theorem J3 (d:bQ) (id:Int) (l:aZ):(AA d id l).length≤l.length:=List.length_filter_le _ _
theorem ZK (w:dj) (id:Int) (d:bQ) (hl:(d.q.1).length≤1048576) :
  aI jO (w.1,w.2.1,w.2.2.1,w.2.2.2.1,id,d.1,d.2.1,d.2.2.1,d.2.2.2.1,d.2.2.2.2.1,d.q.1,d.q.2.1,d.q.2.2.1,d.q.2.2.2.1,d.q.2.2.2.2.1,d.q.q.1,d.q.q.2.1,d.q.q.2.2.1,d.q.q.2.2.2.1,d.q.q.2.2.2.2.1,d.q.q.q.1,d.q.q.q.2.1,d.q.q.q.2.2.1,d.q.q.q.2.2.2.1,d.q.q.q.2.2.2.2.1,d.q.q.q.q.1,d.q.q.q.q.2.1,d.q.q.q.q.2.2.1,d.q.q.q.q.2.2.2.1,[],(0:Int),())=some (.inl (w.1,w.2.1,w.2.2.1,w.2.2.2.1,id,d.1,d.2.1,d.2.2.1,d.2.2.2.1,d.2.2.2.2.1,d.q.1,d.q.2.1,d.q.2.2.1,d.q.2.2.2.1,d.q.2.2.2.2.1,d.q.q.1,d.q.q.2.1,d.q.q.2.2.1,d.q.q.2.2.2.1,d.q.q.2.2.2.2.1,d.q.q.q.1,d.q.q.q.2.1,d.q.q.q.2.2.1,d.q.q.q.2.2.2.1,d.q.q.q.2.2.2.2.1,d.q.q.q.q.1,d.q.q.q.q.2.1,d.q.q.q.q.2.2.1,d.q.q.q.q.2.2.2.1,AA d id d.q.1,())):=by
 have l1:=bP (round:=jO) (e:=.inl (w.1,w.2.1,w.2.2.1,w.2.2.2.1,id,d.1,d.2.1,d.2.2.1,d.2.2.2.1,d.2.2.2.2.1,d.q.1,d.q.2.1,d.q.2.2.1,d.q.2.2.2.1,d.q.2.2.2.2.1,d.q.q.1,d.q.q.2.1,d.q.q.2.2.1,d.q.q.2.2.2.1,d.q.q.2.2.2.2.1,d.q.q.q.1,d.q.q.q.2.1,d.q.q.q.2.2.1,d.q.q.q.2.2.2.1,d.q.q.q.2.2.2.2.1,d.q.q.q.q.1,d.q.q.q.q.2.1,d.q.q.q.q.2.2.1,d.q.q.q.q.2.2.2.1,AA d id d.q.1,())) (d.q.1).length (fun k=>(w.1,w.2.1,w.2.2.1,w.2.2.2.1,id,d.1,d.2.1,d.2.2.1,d.2.2.2.1,d.2.2.2.2.1,d.q.1,d.q.2.1,d.q.2.2.1,d.q.2.2.2.1,d.q.2.2.2.2.1,d.q.q.1,d.q.q.2.1,d.q.q.2.2.1,d.q.q.2.2.2.1,d.q.q.2.2.2.2.1,d.q.q.q.1,d.q.q.q.2.1,d.q.q.q.2.2.1,d.q.q.q.2.2.2.1,d.q.q.q.2.2.2.2.1,d.q.q.q.q.1,d.q.q.q.q.2.1,d.q.q.q.q.2.2.1,d.q.q.q.q.2.2.2.1,AA d id ((d.q.1).take k),((k:Nat):Int),())) (by
  simp only [jO,aA,aP,sG,aF,aJ,cond_false,List.take_length]) (fun k hk=>by
  have hb:=J3 d id ((d.q.1).take k);rw [List.length_take] at hb;have e:AA d id ((d.q.1).take (k+1))=AA d id ((d.q.1).take k)++(bif decide ((d.q.1)[k].2.1=id) then [(d.q.1)[k]] else []):=by
   unfold AA;rw [List.take_succ_eq_append_getElem hk,List.filter_append,List.filter_cons,List.filter_nil]
   cases decide ((d.q.1)[k].2.1=id)<;>rfl
  simp only [jO,aA,aP,sG,aF,e,aD hk,au,cond_true,aC,List.getElem?_eq_getElem hk,Option.bind_some,aW (show ((AA d id ((d.q.1).take k)).length+1)*40≤lim by unfold lim;omega),aH (show k<4611686018427387904 by omega)]
  cases decide ((d.q.1)[k].2.1=id)
  ·simp only [cond_false,List.append_nil]
  ·rfl)
 exact l1
inductive KT (w:dj) (k:Nat):Int→dj→Prop
 |no (hk:k<w.2.1.length) (h:eO w.2.1[k]=false∨sb ((w.2.1[k]).q.q.2.2.1,(w.2.1[k]).q.q.2.2.2.1,(w.2.1[k]).q.q.2.2.2.2.1,(w.2.1[k]).q.q.q.1,(w.2.1[k]).q.q.q.2.1,(w.2.1[k]).q.q.q.2.2.1,())=true):KT w k 1 w
 |yes (hk:k<w.2.1.length) (hi:eO w.2.1[k]=true) (hb:sb ((w.2.1[k]).q.q.2.2.1,(w.2.1[k]).q.q.2.2.2.1,(w.2.1[k]).q.q.2.2.2.2.1,(w.2.1[k]).q.q.q.1,(w.2.1[k]).q.q.q.2.1,(w.2.1[k]).q.q.q.2.2.1,())=false) (to_:Int) (ht:ig (az w.2.1[k]).2.1 (az w.2.1[k]).2.2.1 ((k+1:Nat):Int)=some (to_,())) :
   KT w k 0 (dW w ((w.2.2.1++[jt to_ (az w.2.1[k]).2.1 ((w.2.1[k]).q.q.2.2.1,(w.2.1[k]).q.q.2.2.2.1,(w.2.1[k]).q.q.2.2.2.2.1,(w.2.1[k]).q.q.q.1,(w.2.1[k]).q.q.q.2.1,(w.2.1[k]).q.q.q.2.2.1,())])++bZ (az w.2.1[k]).2.2.1 (az w.2.1[k]).2.1 ((k+1:Nat):Int) (AA w.2.1[k] ((k+1:Nat):Int) (az w.2.1[k]).2.2.2.1)))
theorem P8 {n:Nat} {w:dj} (h:gY n w) (hn:n≤98) {k:Nat} (hk:k<w.2.1.length):∃a w',tn w.1 w.2.1 w.2.2.1 w.2.2.2.1 ((k+1:Nat):Int)=some (a,w'.1,w'.2.1,w'.2.2.1,w'.2.2.2.1,())∧gY (n+1) w'∧KT w k a w':=by
 have hf:=h.E8;have h5:=h.ya;obtain ⟨hd,mS⟩:=h.pV k hk;have mNo:=@KT.no w k hk;have ZJ:=@KT.yes w k hk;generalize hdd:w.2.1[k]=d at hd mS mNo ZJ;have hW:=hd.small (by omega);have e1:eU d.1 d.2.1 d.2.2.1 d.2.2.2.1 d.2.2.2.2.1 d.q.1 d.q.2.1 d.q.2.2.1 d.q.2.2.2.1 d.q.2.2.2.2.1 d.q.q.1 d.q.q.2.1 d.q.q.2.2.1 d.q.q.2.2.2.1 d.q.q.2.2.2.2.1 d.q.q.q.1 d.q.q.q.2.1 d.q.q.q.2.2.1 d.q.q.q.2.2.2.1 d.q.q.q.2.2.2.2.1 d.q.q.q.q.1 d.q.q.q.q.2.1 d.q.q.q.q.2.2.1 d.q.q.q.q.2.2.2.1=some (eO d,()):=vQ d hW;have e2:fI d.q.q.2.2.1 d.q.q.2.2.2.1 d.q.q.2.2.2.2.1 d.q.q.q.1 d.q.q.q.2.1 d.q.q.q.2.2.1=some (sb (d.q.q.2.2.1,d.q.q.2.2.2.1,d.q.q.2.2.2.2.1,d.q.q.q.1,d.q.q.q.2.1,d.q.q.q.2.2.1,()),()):=(qd (d.q.q.2.2.1,d.q.q.2.2.2.1,d.q.q.2.2.2.2.1,d.q.q.q.1,d.q.q.q.2.1,d.q.q.q.2.2.1,())).1;unfold tn;delta aA ax aP bf;simp only [ee (show k<1000 by omega),au,cond_true,aC,List.getElem?_eq_getElem hk,Option.bind_some,hdd,e1]
 cases hi:eO d
 ·exact ⟨1,w,rfl,h.up (Nat.le_succ n),mNo (.inl hi)⟩
 simp only [Bool.not_true,cond_false];rw [e2];simp only [Option.bind_some]
 cases hb:sb (d.q.q.2.2.1,d.q.q.2.2.2.1,d.q.q.2.2.2.2.1,d.q.q.q.1,d.q.q.q.2.1,d.q.q.q.2.2.1,())
 case true=>exact ⟨1,w,rfl,h.up (Nat.le_succ n),mNo (.inr hb)⟩
 obtain ⟨m1,m2,_,_⟩:=jZ hW hi;have hT:Gf (d.q.q.2.2.1,d.q.q.2.2.2.1,d.q.q.2.2.2.2.1,d.q.q.q.1,d.q.q.q.2.1,d.q.q.q.2.2.1,()):=by
  rcases m1.last with q | q
  ·have:=(qd (d.q.q.2.2.1,d.q.q.2.2.2.1,d.q.q.2.2.2.2.1,d.q.q.q.1,d.q.q.q.2.1,d.q.q.q.2.2.1,())).2.2.2 q;rw [hb] at this;cases this
  ·exact q
 have Wt:=(di _ m1.items).1;have Wt:(d.q.1).length≤60:=Wt;have l1:=ZK w ((k+1:Nat):Int) d (by omega);have Ef:(((k+1:Nat):Int),())∈(az d).2.2.1:=by
  have h1:=m1.mem;have m2:(az d).1=d.1:=m2;rw [m2,mS] at h1;exact h1
 obtain ⟨to_,lf,RX,e3⟩:=Mk w m1.ring Ef (d.q.q.2.2.1,d.q.q.2.2.2.1,d.q.q.2.2.2.2.1,d.q.q.q.1,d.q.q.q.2.1,d.q.q.q.2.2.1,()) (by omega) (Nat.le_trans hT.q.1 (by decide));have Qd:=J3 d ((k+1:Nat):Int) d.q.1;have e4:=Mj (dW w (w.2.2.1++[jt to_ (az d).2.1 (d.q.q.2.2.1,d.q.q.2.2.2.1,d.q.q.2.2.2.2.1,d.q.q.q.1,d.q.q.q.2.1,d.q.q.q.2.2.1,())])) (az d).2.1 (az d).2.2.1 ((k+1:Nat):Int) (AA d ((k+1:Nat):Int) d.q.1) m1.ring.2.1.2 (by show (w.2.2.1++[_]).length≤_;rw [List.length_append,List.length_singleton];omega) (by omega);have e3:mH w.1 w.2.1 w.2.2.1 w.2.2.2.1 d.2.2.2.1 d.2.2.2.2.1 ((k+1:Nat):Int) d.q.q.2.2.1 d.q.q.2.2.2.1 d.q.q.2.2.2.2.1 d.q.q.q.1 d.q.q.q.2.1 d.q.q.q.2.2.1=_:=e3;have Ym:=s6 (az d).2.2.1 (az d).2.1 ((k+1:Nat):Int) m1.ring.2.1.2 (AA d ((k+1:Nat):Int) d.q.1);refine ⟨0,dW (dW w (w.2.2.1++[jt to_ (az d).2.1 (d.q.q.2.2.1,d.q.q.2.2.2.1,d.q.q.2.2.2.2.1,d.q.q.q.1,d.q.q.q.2.1,d.q.q.q.2.2.1,())])) ((w.2.2.1++[jt to_ (az d).2.1 (d.q.q.2.2.1,d.q.q.2.2.2.1,d.q.q.2.2.2.2.1,d.q.q.q.1,d.q.q.q.2.1,d.q.q.q.2.2.1,())])++bZ (az d).2.2.1 (az d).2.1 ((k+1:Nat):Int) (AA d ((k+1:Nat):Int) d.q.1)),?_,?_,ZJ hi hb to_ RX⟩
 ·simp only [cond_false];rw [l1];simp only [bU,Option.bind_some];rw [e3];simp only [Option.bind_some];rw [e4];rfl
 ·refine gY.dW (w:=dW w _) ((h.up (Nat.le_succ n)).dW (fun x hx => ?_) ?_) (fun x hx => ?_) ?_
  ·rcases List.mem_append.1 hx with hx | hx
   ·exact h.lets x hx
   ·rw [List.mem_singleton] at hx;subst hx;exact J0 lf hT.q.1
  ·rw [List.length_append,List.length_singleton];omega
  ·rcases List.mem_append.1 hx with hx | hx
   ·rcases List.mem_append.1 hx with hx | hx
    ·exact h.lets x hx
    ·rw [List.mem_singleton] at hx;subst hx;exact J0 lf hT.q.1
   ·exact NO m1.ring x hx
  ·rw [List.length_append,List.length_append,List.length_singleton];omega
inductive KU (w:dj) (x:uR):Int→dj→Prop
 |item (k:Nat) (hk:k<w.2.1.length) (lf:x.2.1=((k+1:Nat):Int)) (k1:x.1=1):KU w x 0 (pz w k (px w.2.1[k] x.2.2.1 (x.2.2.2.1,x.2.2.2.2.1,x.q.1,x.q.2.1,())))
 |tok (k:Nat) (hk:k<w.2.1.length) (lf:x.2.1=((k+1:Nat):Int)) (k2:x.1=2) {a:Int} {w':dj} (h:NP w k (x.q.2.2.1,x.q.2.2.2.1,x.q.2.2.2.2.1,x.q.q.1,x.q.q.2.1,x.q.q.2.2.1,()) a w'):KU w x a w'
 |TB (k:Nat) (hk:k<w.2.1.length) (lf:x.2.1=((k+1:Nat):Int)) (k1:¬x.1=1) (k2:¬x.1=2) (hb:(bt w.2.1[k] (x.q.q.2.2.2.1,x.q.q.2.2.2.2.1,x.q.q.q.1,x.q.q.q.2.1,())).2=false):KU w x 1 w
 |bun (k:Nat) (hk:k<w.2.1.length) (lf:x.2.1=((k+1:Nat):Int)) (k1:¬x.1=1) (k2:¬x.1=2) (hb:(bt w.2.1[k] (x.q.q.2.2.2.1,x.q.q.2.2.2.2.1,x.q.q.q.1,x.q.q.q.2.1,())).2=true):KU w x 0 (pz w k (bt w.2.1[k] (x.q.q.2.2.2.1,x.q.q.2.2.2.2.1,x.q.q.q.1,x.q.q.q.2.1,())).1)
theorem Sc {n:Nat} {w:dj} (h:gY n w) (hn:n≤98) {x:uR} (hx:NN x):∃a w',gW w.1 w.2.1 w.2.2.1 w.2.2.2.1 x.1 x.2.1 x.2.2.1 x.2.2.2.1 x.2.2.2.2.1 x.q.1 x.q.2.1 x.q.2.2.1 x.q.2.2.2.1 x.q.2.2.2.2.1 x.q.q.1 x.q.q.2.1 x.q.q.2.2.1 x.q.q.2.2.2.1 x.q.q.2.2.2.2.1 x.q.q.q.1 x.q.q.q.2.1=some (a,w'.1,w'.2.1,w'.2.2.1,w'.2.2.2.1,())∧gY (n+1) w'∧KU w x a w':=by
 have h5:=h.ya;obtain ⟨k,hk⟩:=Int.eq_ofNat_of_zero_le (show 0≤x.2.1-1 by have:=hx.to_;omega);have lf:x.2.1=((k+1:Nat):Int):=by omega
 have hk:k<w.2.1.length:=by have:=hx.to_;omega
 obtain ⟨hd,mS⟩:=h.pV k hk;unfold gW;delta aA;simp only [lf,ee (show k<1000 by omega),au,cond_true,aC,List.getElem?_eq_getElem hk,Option.bind_some]
 by_cases k1:x.1=1
 ·have e1:=(C7 w.2.1[k] x.2.2.1 (x.2.2.2.1,x.2.2.2.2.1,x.q.1,x.q.2.1,()) (hd.small (by omega))).1;obtain ⟨g1,g2⟩:=R2 hd (by omega) x.2.2.1 (x.2.2.2.1,x.2.2.2.2.1,x.q.1,x.q.2.1,());have e2:=qK w (by omega) hk (px w.2.1[k] x.2.2.1 (x.2.2.2.1,x.2.2.2.2.1,x.q.1,x.q.2.1,())) (g2.trans mS);simp only [aq k1,cond_true];rw [e1];simp only [Option.bind_some];rw [e2];exact ⟨0,_,rfl,(h.up (Nat.le_succ n)).pz hk g1 g2,.item k hk lf k1⟩
 by_cases k2:x.1=2
 ·obtain ⟨a,w',e1,hw,hs⟩:=Ha h (by omega) hk (x.q.2.2.1,x.q.2.2.2.1,x.q.2.2.2.2.1,x.q.q.1,x.q.q.2.1,x.q.q.2.2.1,()) (Nat.le_trans hx.Tu (by decide));simp only [ak k1,aq k2,cond_true,cond_false];rw [e1];exact ⟨a,w',rfl,hw,.tok k hk lf k2 hs⟩
 ·have hbl:(x.q.q.q.2.1).length≤1048576:=Nat.le_trans hx.bun (by decide);have e1:=(Ax w.2.1[k] (x.q.q.2.2.2.1,x.q.q.2.2.2.2.1,x.q.q.q.1,x.q.q.q.2.1,()) (hd.small (by omega)) hbl).1;simp only [ak k1,ak k2,cond_false];rw [e1];simp only [Option.bind_some]
  cases hb:(bt w.2.1[k] (x.q.q.2.2.2.1,x.q.q.2.2.2.2.1,x.q.q.q.1,x.q.q.q.2.1,())).2
  ·exact ⟨1,w,rfl,h.up (Nat.le_succ n),.TB k hk lf k1 k2 hb⟩
  ·obtain ⟨g1,g2,_⟩:=VX hd (by omega) (b:=(x.q.q.2.2.2.1,x.q.q.2.2.2.2.1,x.q.q.q.1,x.q.q.q.2.1,())) hbl hb;have e2:=qK w (by omega) hk (bt w.2.1[k] (x.q.q.2.2.2.1,x.q.q.2.2.2.2.1,x.q.q.q.1,x.q.q.q.2.1,())).1 (g2.trans mS);simp only [Bool.not_true,cond_false];rw [e2];exact ⟨0,_,rfl,(h.up (Nat.le_succ n)).pz hk g1 g2,.bun k hk lf k1 k2 hb⟩
abbrev w6:Type:=Int×Int×Int×Int×ByteArray×Unit
structure Fl (e:w6):Prop where
 kind:1≤e.1∧e.1≤9
 id:1≤e.2.1∧e.2.1≤5
 at_:0≤e.2.2.1
 say:e.1=1→(1≤e.2.2.2.1∧e.2.2.2.1≤2)∧ByteArray.size e.2.2.2.2.1≤60
 no:e.1≠1→e.2.2.2.1=0∧e.2.2.2.2.1=ByteArray.empty
inductive KV (w:dj) (e:w6):Int→dj→Prop
 |none_ (h0:w.2.2.1.length=0):KV w e 1 w
 |TC (j:Nat) (hj:j<w.2.2.1.length) (ht:Int.tmod e.2.2.1 ((List.length w.2.2.1:Nat):Int)=((j:Nat):Int)) (k5:e.1=5):KV w e 0 (dW w (w.2.2.1++[w.2.2.1[j]]))
 |abB (j:Nat) (hj:j<w.2.2.1.length) (ht:Int.tmod e.2.2.1 ((List.length w.2.2.1:Nat):Int)=((j:Nat):Int)) (k5:¬e.1=5) (k4:e.1=4):KV w e 0 (dW w (List.take j w.2.2.1++List.drop (j+1) w.2.2.1))
 |carry (j:Nat) (hj:j<w.2.2.1.length) (ht:Int.tmod e.2.2.1 ((List.length w.2.2.1:Nat):Int)=((j:Nat):Int)) (k5:¬e.1=5) (k4:¬e.1=4) {a:Int} {w':dj} (h:KU (dW w (List.take j w.2.2.1++List.drop (j+1) w.2.2.1)) w.2.2.1[j] a w'):KV w e a w'
theorem NQ {n:Nat} {w:dj} (h:gY n w) (hn:n≤98) {e:w6} (he:Fl e):∃a w',ka w.1 w.2.1 w.2.2.1 w.2.2.2.1 e.1 e.2.1 e.2.2.1 e.2.2.2.1 e.2.2.2.2.1=some (a,w'.1,w'.2.1,w'.2.2.1,w'.2.2.2.1,())∧gY (n+1) w'∧KV w e a w':=by
 have hf:=h.E8;unfold ka;delta aX
 by_cases h0:w.2.2.1.length=0
 ·rw [aq (show ((List.length w.2.2.1:Nat):Int)=0 by omega)];exact ⟨1,w,rfl,h.up (Nat.le_succ n),.none_ h0⟩
 obtain ⟨i,hi⟩:=Int.eq_ofNat_of_zero_le he.at_;have dB:i % w.2.2.1.length<w.2.2.1.length:=Nat.mod_lt _ (by omega);generalize hj:i % w.2.2.1.length=j at dB;have et:Int.tmod e.2.2.1 ((List.length w.2.2.1:Nat):Int)=((j:Nat):Int):=by rw [hi,←hj];exact ZG _ _
 have hX:=h.lets _ (List.getElem_mem dB);simp only [ak (show ¬((List.length w.2.2.1:Nat):Int)=0 by omega),cond_false,et,au,aC,List.getElem?_eq_getElem dB,Option.bind_some,cond_true]
 by_cases k5:e.1=5
 ·have hs:=Fi w (by omega) w.2.2.1[j];simp only [aq k5,cond_true];rw [hs];refine ⟨0,_,rfl,(h.up (Nat.le_succ n)).dW (fun x hx => ?_) ?_,.TC j dB et k5⟩
  ·rcases List.mem_append.1 hx with hx | hx
   ·exact h.lets x hx
   ·rw [List.mem_singleton] at hx;subst hx;exact hX
  ·rw [List.length_append,List.length_singleton];omega
 have WU:(List.take j w.2.2.1).length≤w.2.2.1.length:=by rw [List.length_take];omega
 have hl2:(List.drop (j+1) w.2.2.1).length≤w.2.2.1.length:=by rw [List.length_drop];omega
 have hW:gY n (dW w (List.take j w.2.2.1++List.drop (j+1) w.2.2.1)):=h.dW (fun x hx=>by
  rcases List.mem_append.1 hx with hx | hx
  ·exact h.lets x (List.mem_of_mem_take hx)
  ·exact h.lets x (List.mem_of_mem_drop hx)) (by rw [List.length_append,List.length_take,List.length_drop];omega)
 obtain ⟨b,w',e2,hw,hs⟩:=Sc hW hn hX;have e2:gW w.1 w.2.1 (List.take j w.2.2.1++List.drop (j+1) w.2.2.1) w.2.2.2.1 (w.2.2.1[j]).1 (w.2.2.1[j]).2.1 (w.2.2.1[j]).2.2.1 (w.2.2.1[j]).2.2.2.1 (w.2.2.1[j]).2.2.2.2.1 (w.2.2.1[j]).q.1 (w.2.2.1[j]).q.2.1 (w.2.2.1[j]).q.2.2.1 (w.2.2.1[j]).q.2.2.2.1 (w.2.2.1[j]).q.2.2.2.2.1 (w.2.2.1[j]).q.q.1 (w.2.2.1[j]).q.q.2.1 (w.2.2.1[j]).q.q.2.2.1 (w.2.2.1[j]).q.q.2.2.2.1 (w.2.2.1[j]).q.q.2.2.2.2.1 (w.2.2.1[j]).q.q.q.1 (w.2.2.1[j]).q.q.q.2.1=some (b,w'.1,w'.2.1,w'.2.2.1,w'.2.2.2.1,()):=e2;simp only [ak k5,cond_false,aq (show ((j:Nat):Int)≤((List.length w.2.2.1:Nat):Int) by omega),cond_true,List.drop_zero,List.nil_append,aH (show j<4611686018427387904 by omega),au,aC,
  aq (show (((j+1:Nat)):Int)≤((List.length w.2.2.1:Nat):Int) by omega),aW (show (0+(List.take j w.2.2.1).length)*176≤lim by unfold lim;omega),aW (show ((List.take j w.2.2.1).length+(List.drop (j+1) w.2.2.1).length)*176≤lim by unfold lim;omega),dv]
 by_cases k4:e.1=4
 ·rw [aq k4];exact ⟨0,_,rfl,hW.up (Nat.le_succ n),.abB j dB et k5 k4⟩
 ·rw [ak k4,e2];exact ⟨b,w',rfl,hw,.carry j dB et k5 k4 hs⟩
theorem V9 {n:Nat} {d:bQ} (h:mm n d) (hn:n≤100):zP d.1 d.2.1 d.2.2.1 d.2.2.2.1 d.2.2.2.2.1 d.q.1 d.q.2.1 d.q.2.2.1 d.q.2.2.2.1 d.q.2.2.2.2.1 d.q.q.1 d.q.q.2.1 d.q.q.2.2.1 d.q.q.2.2.2.1 d.q.q.2.2.2.2.1 d.q.q.q.1 d.q.q.q.2.1 d.q.q.q.2.2.1 d.q.q.q.2.2.2.1 d.q.q.q.2.2.2.2.1 d.q.q.q.q.1 d.q.q.q.q.2.1 d.q.q.q.q.2.2.1 d.q.q.q.q.2.2.2.1=some (JW d):=by
 have hW:=h.small hn;unfold nj at hW;unfold zP;rw [AQ _ (by omega)];rfl
theorem Wa (d:bQ) (h:nj d≤1048576):vK d.1 d.2.1 d.2.2.1 d.2.2.2.1 d.2.2.2.2.1 d.q.1 d.q.2.1 d.q.2.2.1 d.q.2.2.2.1 d.q.2.2.2.2.1 d.q.q.1 d.q.q.2.1 d.q.q.2.2.1 d.q.q.2.2.2.1 d.q.q.2.2.2.2.1 d.q.q.q.1 d.q.q.q.2.1 d.q.q.q.2.2.1 d.q.q.q.2.2.2.1 d.q.q.q.2.2.2.2.1 d.q.q.q.q.1 d.q.q.q.q.2.1 d.q.q.q.q.2.2.1 d.q.q.q.q.2.2.2.1=some ((cA d).1.1,(cA d).1.2.1,(cA d).1.2.2.1,(cA d).1.2.2.2.1,(cA d).1.2.2.2.2.1,(cA d).1.q.1,(cA d).1.q.2.1,(cA d).1.q.2.2.1,(cA d).1.q.2.2.2.1,(cA d).1.q.2.2.2.2.1,(cA d).1.q.q.1,(cA d).1.q.q.2.1,(cA d).1.q.q.2.2.1,(cA d).1.q.q.2.2.2.1,(cA d).1.q.q.2.2.2.2.1,(cA d).1.q.q.q.1,(cA d).1.q.q.q.2.1,(cA d).1.q.q.q.2.2.1,(cA d).1.q.q.q.2.2.2.1,(cA d).1.q.q.q.2.2.2.2.1,(cA d).1.q.q.q.q.1,(cA d).1.q.q.q.q.2.1,(cA d).1.q.q.q.q.2.2.1,(cA d).1.q.q.q.q.2.2.2.1,(cA d).2,()):=by
 obtain ⟨k1,k2,_⟩:=pR d h;obtain ⟨p1,p2⟩:=vz d h;unfold vK cA;delta cM bF;simp only [k1,p1,Option.bind_some]
 cases hb:kj d
 ·rfl
 ·cases hd:d.2.1<;>rfl
theorem NR (d:bQ) (h:nj d≤1048576) {t:gN} (hF:iO d.1 d.2.1 d.2.2.1 d.2.2.2.1 d.2.2.2.2.1 d.q.1 d.q.2.1 d.q.2.2.1 d.q.2.2.2.1 d.q.2.2.2.2.1 d.q.q.1 d.q.q.2.1 d.q.q.2.2.1 d.q.q.2.2.2.1 d.q.q.2.2.2.2.1 d.q.q.q.1 d.q.q.q.2.1 d.q.q.q.2.2.1 d.q.q.q.2.2.2.1 d.q.q.q.2.2.2.2.1 d.q.q.q.q.1 d.q.q.q.q.2.1 d.q.q.q.q.2.2.1 d.q.q.q.q.2.2.2.1=some (t.1,t.2.1,t.2.2.1,t.2.2.2.1,t.2.2.2.2.1,t.q.1,true,())):eO d=true∧d.q.2.2.2.1=0∧t=(d.2.2.2.1,1,0,0,0,[],())∧∃m,(d.2.2.2.2.1)[0]?=some m∧m.1=d.1:=by
 have hi:=vQ d h;have hi:eU d.1 d.2.1 d.2.2.1 d.2.2.2.1 d.2.2.2.2.1 d.q.1 d.q.2.1 d.q.2.2.1 d.q.2.2.2.1 d.q.2.2.2.2.1 d.q.q.1 d.q.q.2.1 d.q.q.2.2.1 d.q.q.2.2.2.1 d.q.q.2.2.2.2.1 d.q.q.q.1 d.q.q.q.2.1 d.q.q.q.2.2.1 d.q.q.q.2.2.2.1 d.q.q.q.2.2.2.2.1 d.q.q.q.q.1 d.q.q.q.q.2.1 d.q.q.q.q.2.2.1 d.q.q.q.q.2.2.2.1=some (eO d,()):=hi;unfold iO at hF;delta bF at hF;simp only [hi,Option.bind_some] at hF
 cases hb:eO d
 ·rw [hb] at hF;have hF:=Option.some.inj hF;have:=congrArg (fun z=>z.q.2.1) hF
  cases this
 ·obtain ⟨m1,_,_,_⟩:=jZ h hb;rw [hb] at hF;have hl:0<(d.2.2.2.2.1).length:=by have h1:1≤(az d).2.2.1.length:=m1.ring.2.1.1;exact h1
  have hl5:(d.2.2.2.2.1).length≤1048576:=by have h1:(az d).2.2.1.length≤5:=m1.ring.2.1.2;exact Nat.le_trans h1 (by decide)
  obtain ⟨f1,_⟩:=G1 d.2.2.2.1 d.2.2.2.2.1 hl5 m1.ring;simp only [Bool.not_true,cond_false,List.getElem?_eq_getElem hl,Option.bind_some,f1] at hF
  by_cases h0:((d.2.2.2.2.1)[0]).1=d.1
  ·by_cases h8:d.q.2.2.2.1=0
   ·rw [aq h0,aq h8] at hF;have hF:=Option.some.inj hF;have e1:(d.2.2.2.1,(1:Int),(0:Int),(0:Int),(0:Int),([]:cG),())=t:=congrArg (fun z:Int×Int×Int×Int×Int×cG×Bool×Unit=>((z.1,z.2.1,z.2.2.1,z.2.2.2.1,z.2.2.2.2.1,z.q.1,()):gN)) hF;exact ⟨rfl,h8,e1.symm,_,List.getElem?_eq_getElem hl,h0⟩
   ·rw [aq h0,ak h8] at hF;have hF:=Option.some.inj hF;have:=congrArg (fun z=>z.q.2.1) hF
    cases this
  ·rw [ak h0] at hF;have hF:=Option.some.inj hF;have:=congrArg (fun z=>z.q.2.1) hF
   cases this
inductive Qj (w:dj) (e:w6):Int→dj→Prop
 |TD (k:Nat) (hk:k<w.2.1.length) (lf:e.2.1=((k+1:Nat):Int)) (k1:e.1=1) (hb:(bR w.2.1[k] e.2.2.2.1 e.2.2.2.2.1).2=false):Qj w e 1 w
 |say (k:Nat) (hk:k<w.2.1.length) (lf:e.2.1=((k+1:Nat):Int)) (k1:e.1=1) (hb:(bR w.2.1[k] e.2.2.2.1 e.2.2.2.2.1).2=true):Qj w e 0 (pz w k (bR w.2.1[k] e.2.2.2.1 e.2.2.2.2.1).1)
 |HC (k:Nat) (hk:k<w.2.1.length) (lf:e.2.1=((k+1:Nat):Int)) (k2:e.1=2) (t:gN) (hF:iO (w.2.1[k]).1 (w.2.1[k]).2.1 (w.2.1[k]).2.2.1 (w.2.1[k]).2.2.2.1 (w.2.1[k]).2.2.2.2.1 (w.2.1[k]).q.1 (w.2.1[k]).q.2.1 (w.2.1[k]).q.2.2.1 (w.2.1[k]).q.2.2.2.1 (w.2.1[k]).q.2.2.2.2.1 (w.2.1[k]).q.q.1 (w.2.1[k]).q.q.2.1 (w.2.1[k]).q.q.2.2.1 (w.2.1[k]).q.q.2.2.2.1 (w.2.1[k]).q.q.2.2.2.2.1 (w.2.1[k]).q.q.q.1 (w.2.1[k]).q.q.q.2.1 (w.2.1[k]).q.q.q.2.2.1 (w.2.1[k]).q.q.q.2.2.2.1 (w.2.1[k]).q.q.q.2.2.2.2.1 (w.2.1[k]).q.q.q.q.1 (w.2.1[k]).q.q.q.q.2.1 (w.2.1[k]).q.q.q.q.2.2.1 (w.2.1[k]).q.q.q.q.2.2.2.1=some (t.1,t.2.1,t.2.2.1,t.2.2.2.1,t.2.2.2.2.1,t.q.1,false,())):Qj w e 1 w
 |first (k:Nat) (hk:k<w.2.1.length) (lf:e.2.1=((k+1:Nat):Int)) (k2:e.1=2) (t:gN) (hF:iO (w.2.1[k]).1 (w.2.1[k]).2.1 (w.2.1[k]).2.2.1 (w.2.1[k]).2.2.2.1 (w.2.1[k]).2.2.2.2.1 (w.2.1[k]).q.1 (w.2.1[k]).q.2.1 (w.2.1[k]).q.2.2.1 (w.2.1[k]).q.2.2.2.1 (w.2.1[k]).q.2.2.2.2.1 (w.2.1[k]).q.q.1 (w.2.1[k]).q.q.2.1 (w.2.1[k]).q.q.2.2.1 (w.2.1[k]).q.q.2.2.2.1 (w.2.1[k]).q.q.2.2.2.2.1 (w.2.1[k]).q.q.q.1 (w.2.1[k]).q.q.q.2.1 (w.2.1[k]).q.q.q.2.2.1 (w.2.1[k]).q.q.q.2.2.2.1 (w.2.1[k]).q.q.q.2.2.2.2.1 (w.2.1[k]).q.q.q.q.1 (w.2.1[k]).q.q.q.q.2.1 (w.2.1[k]).q.q.q.q.2.2.1 (w.2.1[k]).q.q.q.q.2.2.2.1=some (t.1,t.2.1,t.2.2.1,t.2.2.2.1,t.2.2.2.2.1,t.q.1,true,())) {a:Int} {w':dj} (h:NP w k t a w'):Qj w e a w'
 |again (k:Nat) (hk:k<w.2.1.length) (lf:e.2.1=((k+1:Nat):Int)) (k6:e.1=6) {a:Int} {w':dj} (h:KT w k a w'):Qj w e a w'
 |move (k:Nat) (hk:k<w.2.1.length) (lf:e.2.1=((k+1:Nat):Int)) (k7:e.1=7) {a:Int} {w':dj} (h:Gp w k a w'):Qj w e a w'
 |HD (k:Nat) (hk:k<w.2.1.length) (lf:e.2.1=((k+1:Nat):Int)) (k8:e.1=8) (hb:(w.2.1[k]).2.1=true):Qj w e 1 w
 |TE (k:Nat) (hk:k<w.2.1.length) (lf:e.2.1=((k+1:Nat):Int)) (k8:e.1=8) (hb:(w.2.1[k]).2.1=false):Qj w e 0 (pz w k (JW w.2.1[k]))
 |NS (k:Nat) (hk:k<w.2.1.length) (lf:e.2.1=((k+1:Nat):Int)) (k9:e.1=9) (hb:(cA w.2.1[k]).2=false):Qj w e 1 w
 |abC (k:Nat) (hk:k<w.2.1.length) (lf:e.2.1=((k+1:Nat):Int)) (k9:e.1=9) (hb:(cA w.2.1[k]).2=true):Qj w e 0 (pz w k (cA w.2.1[k]).1)
 |NT (k:Nat) (hk:k<w.2.1.length) (lf:e.2.1=((k+1:Nat):Int)) (hn:¬e.1=1∧¬e.1=2∧¬e.1=6∧¬e.1=7∧¬e.1=8∧¬e.1=9) {a:Int} {w':dj} (h:KV w e a w'):Qj w e a w'
theorem P9 {n:Nat} {w:dj} (h:gY n w) (hn:n≤98) {e:w6} (he:Fl e):∃a w',qC w.1 w.2.1 w.2.2.1 w.2.2.2.1 e.1 e.2.1 e.2.2.1 e.2.2.2.1 e.2.2.2.2.1=some (a,w'.1,w'.2.1,w'.2.2.1,w'.2.2.2.1,())∧gY (n+1) w'∧Qj w e a w':=by
 have h5:=h.ya;obtain ⟨k,hk⟩:=Int.eq_ofNat_of_zero_le (show 0≤e.2.1-1 by have:=he.id;omega);have lf:e.2.1=((k+1:Nat):Int):=by omega
 have hk:k<w.2.1.length:=by have:=he.id;omega
 obtain ⟨hd,mS⟩:=h.pV k hk;have hW:=hd.small (by omega);unfold qC;delta aA aP;simp only [lf,ee (show k<1000 by omega),au,cond_true,aC,List.getElem?_eq_getElem hk,Option.bind_some]
 by_cases k1:e.1=1
 ·obtain ⟨a1,a2⟩:=he.say k1;have e1:=(Cd w.2.1[k] e.2.2.2.1 e.2.2.2.2.1 hW).1;simp only [aq k1,cond_true];rw [e1];simp only [Option.bind_some]
  cases hb:(bR w.2.1[k] e.2.2.2.1 e.2.2.2.2.1).2
  ·exact ⟨1,w,rfl,h.up (Nat.le_succ n),.TD k hk lf k1 hb⟩
  ·obtain ⟨g1,g2⟩:=an7 hd (by omega) a1 a2 hb;have e2:=qK w (by omega) hk (bR w.2.1[k] e.2.2.2.1 e.2.2.2.2.1).1 (g2.trans mS);simp only [Bool.not_true,cond_false];rw [e2];exact ⟨0,_,rfl,(h.up (Nat.le_succ n)).pz hk g1 g2,.say k hk lf k1 hb⟩
 by_cases k2:e.1=2
 ·obtain ⟨t,b,e1,_,ht⟩:=vA w.2.1[k] hW;simp only [ak k1,aq k2,cond_true,cond_false];rw [e1];simp only [Option.bind_some]
  cases b
  ·exact ⟨1,w,rfl,h.up (Nat.le_succ n),.HC k hk lf k2 t e1⟩
  ·obtain ⟨a,w',e2,hw,hs⟩:=Ha h (by omega) hk t (by rw [ht];exact Nat.zero_le _);simp only [Bool.not_true,cond_false];rw [e2];exact ⟨a,w',rfl,hw,.first k hk lf k2 t e1 hs⟩
 by_cases k6:e.1=6
 ·obtain ⟨a,w',e2,hw,hs⟩:=P8 h hn hk;simp only [ak k1,ak k2,aq k6,cond_true,cond_false];rw [e2];exact ⟨a,w',rfl,hw,.again k hk lf k6 hs⟩
 by_cases k7:e.1=7
 ·obtain ⟨a,w',e2,hw,hs⟩:=Sb h hn hk;simp only [ak k1,ak k2,ak k6,aq k7,cond_true,cond_false];rw [e2];exact ⟨a,w',rfl,hw,.move k hk lf k7 hs⟩
 by_cases k8:e.1=8
 ·simp only [ak k1,ak k2,ak k6,ak k7,aq k8,cond_true,cond_false]
  cases hb:(w.2.1[k]).2.1
  ·have e1:=V9 hd (by omega);have e2:=qK w (by omega) hk (JW w.2.1[k]) mS;rw [hb] at e1;simp only [cond_false];rw [e1];simp only [Option.bind_some];rw [e2];exact ⟨0,_,rfl,(h.up (Nat.le_succ n)).pz hk ((aiw hd).up (Nat.le_succ n)) rfl,.TE k hk lf k8 hb⟩
  ·exact ⟨1,w,rfl,h.up (Nat.le_succ n),.HD k hk lf k8 hb⟩
 by_cases k9:e.1=9
 ·have e1:=Wa w.2.1[k] hW;simp only [ak k1,ak k2,ak k6,ak k7,ak k8,aq k9,cond_true,cond_false];rw [e1];simp only [Option.bind_some]
  cases hb:(cA w.2.1[k]).2
  ·exact ⟨1,w,rfl,h.up (Nat.le_succ n),.NS k hk lf k9 hb⟩
  ·obtain ⟨g1,g2⟩:=aix hd hb;have e2:=qK w (by omega) hk (cA w.2.1[k]).1 (g2.trans mS);simp only [Bool.not_true,cond_false];rw [e2];exact ⟨0,_,rfl,(h.up (Nat.le_succ n)).pz hk (g1.up (Nat.le_succ n)) g2,.abC k hk lf k9 hb⟩
 ·obtain ⟨a,w',e2,hw,hs⟩:=NQ h hn he;rw [lf] at e2;simp only [ak k1,ak k2,ak k6,ak k7,ak k8,ak k9,cond_false];rw [e2];exact ⟨a,w',rfl,hw,.NT k hk lf ⟨k1,k2,k6,k7,k8,k9⟩ hs⟩
theorem Qa {n:Nat} {w:dj} (h:gY n w) (hn:n≤98) {e:w6} (he:Fl e):∃a w',qC w.1 w.2.1 w.2.2.1 w.2.2.2.1 e.1 e.2.1 e.2.2.1 e.2.2.2.1 e.2.2.2.2.1=some (a,w'.1,w'.2.1,w'.2.2.1,w'.2.2.2.1,())∧gY (n+1) w':=by
 obtain ⟨a,w',e,h1,_⟩:=P9 h hn he;exact ⟨a,w',e,h1⟩
end Go.TM
set_option linter.unusedSimpArgs false
set_option linter.unusedVariables false
namespace Go.TM
open Go
theorem abD {v:Int} (h:(v,())∈[((1:Int),()),(1,()),(1,()),(2,()),(3,()),(3,()),(3,()),(3,()),(3,()),(3,()),(3,()),(3,()),(3,()),(4,()),(5,()),(6,()),(7,()),(7,()),(8,()),(9,())]):1≤v∧v≤9:=by
 simp only [List.mem_cons,Prod.mk.injEq,and_true,List.not_mem_nil,or_false] at h;omega
theorem Wb (d:bQ) (h:nj d≤1048576):∃(t:gN) (b:Bool),iO d.1 d.2.1 d.2.2.1 d.2.2.2.1 d.2.2.2.2.1 d.q.1 d.q.2.1 d.q.2.2.1 d.q.2.2.2.1 d.q.2.2.2.2.1 d.q.q.1 d.q.q.2.1 d.q.q.2.2.1 d.q.q.2.2.2.1 d.q.q.2.2.2.2.1 d.q.q.q.1 d.q.q.q.2.1 d.q.q.q.2.2.1 d.q.q.q.2.2.2.1 d.q.q.q.2.2.2.2.1 d.q.q.q.q.1 d.q.q.q.q.2.1 d.q.q.q.q.2.2.1 d.q.q.q.q.2.2.2.1=some (t.1,t.2.1,t.2.2.1,t.2.2.2.1,t.2.2.2.2.1,t.q.1,b,()):=by
 obtain ⟨t,b,e,_⟩:=vA d h;exact ⟨t,b,e⟩
theorem J4 (code:List (Int×Unit)) (a s:Int) {n:Nat} {w:dj} (h:gY n w) (hn:n≤98) {v id b:Int} (hv:v=2∨v=7) (mS:1≤id∧id≤3) :
  ∃tD,(1≤tD∧tD≤3)∧aI jh (code,a,s,w.1,w.2.1,w.2.2.1,w.2.2.2.1,(0:Int),(0:Int),(0:Int),(0:Int),ByteArray.empty,v,id,b,(0:Int),ByteArray.empty,(0:Int),())=some (.inl (code,a,s,w.1,w.2.1,w.2.2.1,w.2.2.2.1,(0:Int),(0:Int),(0:Int),(0:Int),ByteArray.empty,v,tD,b,(0:Int),ByteArray.empty,())):=by
 have h5:=h.ya;obtain ⟨e,he,tD,rfl,hq⟩:=dU (round:=jh) (x:=(code,a,s,w.1,w.2.1,w.2.2.1,w.2.2.2.1,(0:Int),(0:Int),(0:Int),(0:Int),ByteArray.empty,v,id,b,(0:Int),ByteArray.empty,((0:Nat):Int),())) 3
  (fun k x=>∃tD,x=(code,a,s,w.1,w.2.1,w.2.2.1,w.2.2.2.1,(0:Int),(0:Int),(0:Int),(0:Int),ByteArray.empty,v,tD,b,(0:Int),ByteArray.empty,((k:Nat):Int),())∧1≤tD∧tD≤3)
  (fun e=>∃tD,e=.inl (code,a,s,w.1,w.2.1,w.2.2.1,w.2.2.2.1,(0:Int),(0:Int),(0:Int),(0:Int),ByteArray.empty,v,tD,b,(0:Int),ByteArray.empty,())∧1≤tD∧tD≤3) (by
   rintro x ⟨tD,rfl,g⟩
   exact ⟨_,by simp only [jh,aX,tY,aA,ak (show ¬((3:Nat):Int)<3 by omega),cond_false],tD,rfl,g⟩) (by
   rintro k x hk ⟨tD,rfl,g⟩
   have hk5:k<w.2.1.length:=by omega
   obtain ⟨t,fb,e1⟩:=Wb w.2.1[k] ((h.pV k hk5).1.small (by omega));obtain ⟨j,hj⟩:=Int.eq_ofNat_of_zero_le (show 0≤tD-1 by omega);have OW:tD=((j+1:Nat):Int):=by omega
   have hj5:j<w.2.1.length:=by omega
   have SZ:IntKind.i64.wrap (((k:Nat):Int)+1)=((k+1:Nat):Int):=aH (show k<4611686018427387904 by omega);simp only [jh,aX,tY,aA,aq (show ((k:Nat):Int)<3 by omega),cond_true,au,aC,List.getElem?_eq_getElem hk5,Option.bind_some,e1,SZ];rcases hv with hv | hv
   ·simp only [aq hv,ak (show ¬v=7 by omega),cond_true,cond_false]
    cases fb
    ·exact .inr ⟨_,rfl,tD,rfl,g⟩
    ·exact .inr ⟨_,rfl,((k+1:Nat):Int),rfl,by omega,by omega⟩
   ·simp only [ak (show ¬v=2 by omega),aq hv,cond_true,cond_false,OW,ee (show j<1000 by omega),au,aC,List.getElem?_eq_getElem hj5,Option.bind_some];rw [←OW]
    cases fb
    ·simp only [cond_false]
     cases decide ((w.2.1[k]).q.q.q.2.2.2.1<(w.2.1[j]).q.q.q.2.2.2.1)
     ·exact .inr ⟨_,rfl,tD,rfl,g⟩
     ·exact .inr ⟨_,rfl,((k+1:Nat):Int),rfl,by omega,by omega⟩
    ·simp only [cond_true]
     cases decide ((w.2.1[k]).q.q.q.2.2.2.1<(w.2.1[j]).q.q.q.2.2.2.1)
     ·exact .inr ⟨_,rfl,tD,rfl,g⟩
     ·exact .inr ⟨_,rfl,((k+1:Nat):Int),rfl,by omega,by omega⟩) ⟨id,rfl,mS⟩
 exact ⟨tD,hq,he⟩
theorem Sd (code:List (Int×Unit)) (a s:Int) {n:Nat} {w:dj} (h:gY n w) {v id b:Int} (mS:1≤id∧id≤3) :
  ∃tD,(1≤tD∧tD≤3)∧aI kr (code,a,s,w.1,w.2.1,w.2.2.1,w.2.2.2.1,(0:Int),(0:Int),(0:Int),(0:Int),ByteArray.empty,v,id,b,(0:Int),ByteArray.empty,(0:Int),())=some (.inl (code,a,s,w.1,w.2.1,w.2.2.1,w.2.2.2.1,(0:Int),(0:Int),(0:Int),(0:Int),ByteArray.empty,v,tD,b,(0:Int),ByteArray.empty,())):=by
 have h5:=h.ya;obtain ⟨e,he,tD,rfl,hq⟩:=dU (round:=kr) (x:=(code,a,s,w.1,w.2.1,w.2.2.1,w.2.2.2.1,(0:Int),(0:Int),(0:Int),(0:Int),ByteArray.empty,v,id,b,(0:Int),ByteArray.empty,((0:Nat):Int),())) 3
  (fun k x=>∃tD,x=(code,a,s,w.1,w.2.1,w.2.2.1,w.2.2.2.1,(0:Int),(0:Int),(0:Int),(0:Int),ByteArray.empty,v,tD,b,(0:Int),ByteArray.empty,((k:Nat):Int),())∧1≤tD∧tD≤3)
  (fun e=>∃tD,e=.inl (code,a,s,w.1,w.2.1,w.2.2.1,w.2.2.2.1,(0:Int),(0:Int),(0:Int),(0:Int),ByteArray.empty,v,tD,b,(0:Int),ByteArray.empty,())∧1≤tD∧tD≤3) (by
   rintro x ⟨tD,rfl,g⟩
   exact ⟨_,by simp only [kr,aX,tZ,ak (show ¬((3:Nat):Int)<3 by omega),cond_false],tD,rfl,g⟩) (by
   rintro k x hk ⟨tD,rfl,g⟩
   have hk5:k<w.2.1.length:=by omega
   have SZ:IntKind.i64.wrap (((k:Nat):Int)+1)=((k+1:Nat):Int):=aH (show k<4611686018427387904 by omega);simp only [kr,aX,tZ,aq (show ((k:Nat):Int)<3 by omega),cond_true,au,aC,List.getElem?_eq_getElem hk5,Option.bind_some,SZ]
   cases (w.2.1[k]).2.1
   ·exact .inr ⟨_,rfl,tD,rfl,g⟩
   ·exact .inr ⟨_,rfl,((k+1:Nat):Int),rfl,by omega,by omega⟩) ⟨id,rfl,mS⟩
 exact ⟨tD,hq,he⟩
theorem Fm (code:List (Int×Unit)) {n:Nat} {w:dj} (h:gY n w) (hn:n≤98) {v id b:Int} (hv:1≤v∧v≤9) (mS:1≤id∧id≤3) (hb:0≤b) (a s:Int) (d:gx code a) :
  ∃(e:w6) (a' s':Int),ji code a s w.1 w.2.1 w.2.2.1 w.2.2.2.1 0 0 0 0 ByteArray.empty v id b 0 ByteArray.empty=some (e.1,e.2.1,e.2.2.1,e.2.2.2.1,e.2.2.2.2.1,code,a',s',w.1,w.2.1,w.2.2.1,w.2.2.2.1,())∧Fl e∧gx code a':=by
 unfold ji;delta aF bF
 by_cases k1:v=1
 ·obtain ⟨l,a1,s1,e1,l0,l1,d1⟩:=sd code a s 2 d (by omega);obtain ⟨t,a2,s2,e2,ht,d2⟩:=ZF code a1 s1 [((ByteArray.mk #[112]),()),((ByteArray.mk #[113]),()),((ByteArray.mk #[114]),()),((ByteArray.mk #[115]),()),((ByteArray.mk #[116]),())] d1 (by decide);have hts:ByteArray.size t≤60:=by
   simp only [List.mem_cons,Prod.mk.injEq,and_true,List.not_mem_nil,or_false] at ht;rcases ht with rfl | rfl | rfl | rfl | rfl<;>decide
  refine ⟨(v,id,b,1+l,t,()),a2,s2,?_,⟨hv,⟨mS.1,by show id≤5;omega⟩,hb,fun _=>⟨by show 1≤1+l∧1+l≤2;omega,hts⟩,fun h1=>absurd k1 h1⟩,d2⟩;simp only [aq k1,cond_true,e1,e2,Option.bind_some];rw [fj (show -9223372036854775808≤1+l by omega) (by omega)]
 have done:∀tD b':Int,(1≤tD∧tD≤3)→0≤b'→Fl (v,tD,b',0,ByteArray.empty,()):=fun tD b' h1 h2=>⟨hv,⟨h1.1,by show tD≤5;omega⟩,h2,fun g=>absurd g k1,fun _=>⟨rfl,rfl⟩⟩
 by_cases k2:v=2
 ·obtain ⟨tD,hi,e1⟩:=J4 code a s h hn (b:=b) (.inl k2) mS;refine ⟨(v,tD,b,0,ByteArray.empty,()),a,s,?_,done tD b hi hb,d⟩;simp only [ak k1,aq k2,cond_true,cond_false,e1,bU,Option.bind_some]
 by_cases k7:v=7
 ·obtain ⟨tD,hi,e1⟩:=J4 code a s h hn (b:=b) (.inr k7) mS;refine ⟨(v,tD,b,0,ByteArray.empty,()),a,s,?_,done tD b hi hb,d⟩;simp only [ak k1,ak k2,aq k7,cond_true,cond_false,e1,bU,Option.bind_some]
 by_cases k3:v=3
 ·obtain ⟨o,a1,s1,e1,d1⟩:=HB code a s 2 d (by omega);simp only [ak k1,ak k2,ak k7,aq k3,cond_true,cond_false,e1,Option.bind_some]
  cases o
  ·exact ⟨(v,id,b,0,ByteArray.empty,()),a1,s1,rfl,done id b mS hb,d1⟩
  ·exact ⟨(v,id,0,0,ByteArray.empty,()),a1,s1,rfl,done id 0 mS (Int.le_refl _),d1⟩
 by_cases k9:v=9
 ·obtain ⟨tD,hi,e1⟩:=Sd code a s h (v:=v) (b:=b) mS;refine ⟨(v,tD,b,0,ByteArray.empty,()),a,s,?_,done tD b hi hb,d⟩;simp only [ak k1,ak k2,ak k7,ak k3,aq k9,cond_true,cond_false,e1,bU,Option.bind_some]
 ·refine ⟨(v,id,b,0,ByteArray.empty,()),a,s,?_,done id b mS hb,d⟩;simp only [ak k1,ak k2,ak k7,ak k3,ak k9,cond_false]
theorem J5 (code:List (Int×Unit)) {n:Nat} {w:dj} (h:gY n w) (hn:n≤98) {v id b:Int} (hv:1≤v∧v≤9) (mS:1≤id∧id≤3) (hb:0≤b) (a s:Int) (d:gx code a) :
  ∃(e:w6) (a' s':Int),kt code a s w.1 w.2.1 w.2.2.1 w.2.2.2.1 0 0 0 0 ByteArray.empty v id b 0 ByteArray.empty=some (e.1,e.2.1,e.2.2.1,e.2.2.2.1,e.2.2.2.2.1,code,a',s',w.1,w.2.1,w.2.2.1,w.2.2.2.1,())∧Fl e∧gx code a':=by
 unfold kt
 cases decide (v=7)
 ·exact Fm code h hn hv mS hb a s d
 cases decide ((0:Int)<((List.length w.2.2.1:Nat):Int))
 ·exact Fm code h hn hv mS hb a s d
 ·obtain ⟨o,a1,s1,e1,d1⟩:=HB code a s 3 d (by omega);simp only [cond_true,e1,Option.bind_some]
  cases o
  ·simp only [Bool.not_false,cond_true];exact Fm code h hn (by omega) mS hb a1 s1 d1
  ·simp only [Bool.not_true,cond_false];exact Fm code h hn hv mS hb a1 s1 d1
theorem J6 (code:List (Int×Unit)) {n:Nat} {w:dj} (h:gY n w) (hn:n≤98) {v id b:Int} (hv:1≤v∧v≤9) (mS:1≤id∧id≤3) (hb:0≤b) (a s:Int) (d:gx code a) :
  ∃(e:w6) (a' s':Int),ku code a s w.1 w.2.1 w.2.2.1 w.2.2.2.1 0 0 0 0 ByteArray.empty v id b 0 ByteArray.empty=some (e.1,e.2.1,e.2.2.1,e.2.2.2.1,e.2.2.2.2.1,code,a',s',w.1,w.2.1,w.2.2.1,w.2.2.2.1,())∧Fl e∧gx code a':=by
 unfold ku
 cases decide (((List.length w.2.2.1:Nat):Int)=0)
 ·exact J5 code h hn hv mS hb a s d
 ·simp only [cond_true,ni,Option.bind_some]
  cases (decide (3≤v)&&decide (v≤5))
  ·exact J5 code h hn hv mS hb a s d
  ·obtain ⟨v2,a1,s1,e1,Qf,d1⟩:=Tz code a s [((2:Int),()),(6,()),(7,())] d (by decide);simp only [cond_true,e1,Option.bind_some];refine J5 code h hn ?_ mS hb a1 s1 d1;simp only [List.mem_cons,Prod.mk.injEq,and_true,List.not_mem_nil,or_false] at Qf;omega
theorem ZL (code:List (Int×Unit)) (a s:Int) (d:gx code a) {n:Nat} {w:dj} (h:gY n w) (hn:n≤98) :
  ∃(e:w6) (a' s':Int),ve code a s w.1 w.2.1 w.2.2.1 w.2.2.2.1=some (e.1,e.2.1,e.2.2.1,e.2.2.2.1,e.2.2.2.2.1,code,a',s',w.1,w.2.1,w.2.2.1,w.2.2.2.1,())∧Fl e∧gx code a':=by
 obtain ⟨v,a1,s1,e1,hv,d1⟩:=Tz code a s [((1:Int),()),(1,()),(1,()),(2,()),(3,()),(3,()),(3,()),(3,()),(3,()),(3,()),(3,()),(3,()),(3,()),(4,()),(5,()),(6,()),(7,()),(7,()),(8,()),(9,())] d (by decide);obtain ⟨i,a2,s2,e2,i0,i1,d2⟩:=sd code a1 s1 3 d1 (by omega);obtain ⟨b,a3,s3,e3,b0,b1,d3⟩:=sd code a2 s2 30 d2 (by omega);have hv:=abD hv;have hi:IntKind.i64.wrap (1+i)=1+i:=fj (by omega) (by omega);unfold ve;simp only [e1,e2,e3,Option.bind_some,hi]
 cases decide (v=8)
 ·exact J6 code h hn hv (by omega) b0 a3 s3 d3
 ·obtain ⟨o,a4,s4,e4,d4⟩:=HB code a3 s3 4 d3 (by omega);simp only [cond_true,e4,Option.bind_some]
  cases o
  ·simp only [Bool.not_false,cond_true];exact J6 code h hn (by omega) (by omega) b0 a4 s4 d4
  ·simp only [Bool.not_true,cond_false];exact J6 code h hn hv (by omega) b0 a4 s4 d4
end Go.TM
set_option linter.unusedSimpArgs false
set_option linter.unusedVariables false
namespace Go.TM
open Go
theorem Mm {c:Int} {ms:cG} (h:Mi c ms):oV c ms:=⟨⟨h.oa,h.qk⟩,⟨h.some_,h.len⟩,fun k hk _=>⟨by have:=h.rising.2.1 k hk;omega,fun h0=>h.rising.2.2 (k-1) k (by omega) hk (by omega)⟩⟩
theorem ZM (code:List (Int×Unit)) (h:code.length≤1048576):∃n:Nat,u9 code=some (((n:Nat):Int),())∧n≤89:=by
 have e:Int.tdiv ((List.length code:Nat):Int) 4=((code.length / 4:Nat):Int):=rfl;unfold u9;rw [e,fj (show -9223372036854775808≤((code.length / 4:Nat):Int) by omega) (by omega),fj (show -9223372036854775808≤24+((code.length / 4:Nat):Int) by omega) (by omega)]
 by_cases g:89<24+code.length / 4
 ·rw [aq (show (89:Int)<24+((code.length / 4:Nat):Int) by omega)];exact ⟨89,rfl,Nat.le_refl _⟩
 ·rw [ak (show ¬(89:Int)<24+((code.length / 4:Nat):Int) by omega)];exact ⟨24+code.length / 4,rfl,by omega⟩
theorem Hb {rs:od} (h:Fh rs):pa rs=some (true,()):=by
 have hf:=h.E8;have hs:=h.some_;have l1:=bP (round:=gj) (e:=.inl (rs,())) rs.length (fun k=>(rs,((k:Nat):Int),())) (by
  simp only [gj,mU,aJ,cond_false]) (fun k hk=>by
  obtain ⟨e1,e2,_⟩:=h.each k hk;have hr:=Mm e2;have hl:(rs[k]).2.1.length≤1048576:=by have:=hr.2.1.2;omega
  have r1:=(qo (rs[k]).1 (rs[k]).2.1 hl).1;rw [(qo (rs[k]).1 (rs[k]).2.1 hl).2.2.2 hr] at r1;simp only [gj,mU,aD hk,au,cond_true,aC,List.getElem?_eq_getElem hk,Option.bind_some,r1,Bool.not_true,cond_false,aH (show k<4611686018427387904 by omega),aq e1])
 have l1:aI gj (rs,(0:Int),())=_:=l1;unfold pa;simp only [l1,bU,Option.bind_some,ni,aq (show (1:Int)≤((List.length rs:Nat):Int) by omega),aq (show ((List.length rs:Nat):Int)≤9 by omega),Bool.and_self]
theorem ZN {rs:od} (h:∀r∈rs,oV r.1 r.2.1) (hl:rs.length≤9):rs.length+wl rY rs≤1048576:=by
 have:=Nr rY 5 rs (fun r hr=>by
  have h1:=(h r hr).2.1.2;have e:rY r=r.2.1.length+wl kY r.2.1:=rfl;have e2:wl kY r.2.1=0:=qh kY (fun _=>rfl) _;omega)
 omega
def cL (rs:od):dj:=(rs,kh 5,[],[],())
theorem ZO (k:Nat) (hk:k<5):vu (D0 (((k:Nat):Int)+1)):=
 {
  id:=⟨by show (1:Int)≤((k:Nat):Int)+1;omega,by show ((k:Nat):Int)+1≤5;omega⟩
  yE:=⟨Int.le_refl _,show (0:Int)≤9 by decide⟩
  dead:=fun e=>by cases e
  uP:=.inl ⟨rfl,rfl,rfl,rfl,rfl,rfl,rfl,rfl,rfl,rfl,rfl,rfl,rfl,rfl,rfl,rfl⟩
  old:=⟨rfl,Int.le_refl _⟩
  nX:=.inl ⟨rfl,rfl,rfl⟩ }
theorem ZP (k:Nat) (hk:k<(kh 5).length):mm 0 (kh 5)[k]∧((kh 5)[k]).1=((k+1:Nat):Int):=by
 have hk0:k<((List.range 5).map fun i:Nat=>D0 ((i:Int)+1)).length:=hk;have e:(kh 5)[k]=D0 (((k:Nat):Int)+1):=by
  show ((List.range 5).map fun i:Nat=>D0 ((i:Int)+1))[k]=_;rw [List.getElem_map,List.getElem_range]
 have hk5:k<5:=by have:=xH 5;omega
 have key:∀x:bQ,x=D0 (((k:Nat):Int)+1)→mm 0 x∧x.1=((k+1:Nat):Int):=fun x hx=>by
  subst hx;exact ⟨⟨ZO k hk5,Nat.zero_le _,Nat.zero_le _,fun e he=>by cases he⟩,by show ((k:Nat):Int)+1=_;omega⟩
 exact key _ e
theorem AB {rs:od} (h:Fh rs):gY 0 (cL rs):=
 {
  rings:=⟨fun r hr=>by
   obtain ⟨k,hk,rfl⟩:=List.mem_iff_getElem.1 hr;exact Mm (h.each k hk).2.1,by show rs.length≤9;have:=h.E8;omega⟩
  ya:=xH 5
  pV:=ZP
  lets:=fun x hx=>by cases hx
  E8:=by show 0≤_;omega
  num:=Nat.zero_le _
  nums:=fun e he=>by cases he }
theorem NU {rs:od} (h:Fh rs):ti rs=some ((cL rs).1,(cL rs).2.1,(cL rs).2.2.1,(cL rs).2.2.2.1,true,()):=by
 have hq:=AB h;have hw:rs.length+wl rY rs≤1048576:=ZN hq.rings.1 hq.rings.2;unfold ti;delta aF;simp only [Hb h,JY rs hw,Option.bind_some,Bool.not_true,cond_false,V1 rs,bU];rfl
theorem ZQ (code:List (Int×Unit)) (a s:Int) (d:gx code a) (hc:code.length≤1048576):∃(rs:od) (ds:List w6) (a' s':Int),vn code a s code=some (rs,ds,code,a',s',())∧Fh rs∧ds.length≤89∧(∀e∈ds,Fl e)∧gx code a':=by
 obtain ⟨rs,a1,s1,e1,hv,d1⟩:=NM code a s d;obtain ⟨n,e2,hn⟩:=ZM code hc;obtain ⟨e,he,a',s',ds,rfl,q1,q2,d'⟩:=dU (round:=kC) (x:=(code,a1,s1,code,[],[],rs,[],(cL rs).1,(cL rs).2.1,(cL rs).2.2.1,(cL rs).2.2.2.1,((0:Nat):Int),())) n
  (fun k x=>∃(a s:Int) (ds:List w6) (w:dj),x=(code,a,s,code,[],[],rs,ds,w.1,w.2.1,w.2.2.1,w.2.2.2.1,((k:Nat):Int),())∧gY k w∧ds.length=k∧(∀e∈ds,Fl e)∧gx code a)
  (fun e=>∃(a s:Int) (ds:List w6),e=.inl (code,a,s,[],[],rs,ds,())∧ds.length=n∧(∀e∈ds,Fl e)∧gx code a) (by
   rintro x ⟨a,s,ds,w,rfl,hw,q1,q2,d⟩
   exact ⟨_,by simp only [kC,kq,uz,ax,aF,e2,Option.bind_some,aJ,cond_false],a,s,ds,rfl,q1,q2,d⟩) (by
   rintro k x hk ⟨a,s,ds,w,rfl,hw,q1,q2,d⟩
   obtain ⟨e,a1,s1,e3,he,d1⟩:=ZL code a s d hw (by omega);have hb:Nat.ble ((ds.length+1)*48) lim=true:=aW (by rw [q1];unfold lim;omega);have SZ:IntKind.i64.wrap (((k:Nat):Int)+1)=((k+1:Nat):Int):=aH (show k<4611686018427387904 by omega);simp only [kC,kq,uz,ax,aF,e2,Option.bind_some,aD hk,cond_true,e3]
   by_cases k3:k<3
   ·have hm:Fl (7,((k+1:Nat):Int),0,0,ByteArray.empty,()):=⟨⟨show (1:Int)≤7 by decide,show (7:Int)≤9 by decide⟩,⟨by show (1:Int)≤((k+1:Nat):Int);omega,by show ((k+1:Nat):Int)≤5;omega⟩,Int.le_refl _,fun h=>(by have h:(7:Int)=1:=h;omega),fun _=>⟨rfl,rfl⟩⟩;obtain ⟨b,w',e4,hw'⟩:=Qa hw (by omega) hm;have e4:qC w.1 w.2.1 w.2.2.1 w.2.2.2.1 7 ((k+1:Nat):Int) 0 0 ByteArray.empty=_:=e4;simp only [aq (show ((k:Nat):Int)<3 by omega),cond_true,SZ,e4,Option.bind_some,hb];refine .inr ⟨_,rfl,a1,s1,ds++[(7,((k+1:Nat):Int),0,0,ByteArray.empty,())],w',rfl,hw',by rw [List.length_append,q1];rfl,fun x hx => ?_,d1⟩;rcases List.mem_append.1 hx with hx | hx
    ·exact q2 x hx
    ·rw [List.mem_singleton] at hx;subst hx;exact hm
   ·obtain ⟨b,w',e4,hw'⟩:=Qa hw (by omega) he;simp only [ak (show ¬((k:Nat):Int)<3 by omega),cond_false,SZ,e4,Option.bind_some,hb,cond_true];refine .inr ⟨_,rfl,a1,s1,ds++[e],w',rfl,hw',by rw [List.length_append,q1];rfl,fun x hx => ?_,d1⟩;rcases List.mem_append.1 hx with hx | hx
    ·exact q2 x hx
    ·rw [List.mem_singleton] at hx;subst hx;exact he) ⟨a1,s1,[],_,rfl,AB hv,rfl,fun e he=>(by cases he),d1⟩
 have he:aI kC (code,a1,s1,code,[],[],rs,[],(cL rs).1,(cL rs).2.1,(cL rs).2.2.1,(cL rs).2.2.2.1,(0:Int),())=_:=he;refine ⟨rs,ds,a',s',?_,hv,by omega,q2,d'⟩;unfold vn;delta aF;simp only [e1,Option.bind_some,NU hv,he,bU]
end Go.TM
set_option linter.unusedSimpArgs false
set_option linter.unusedVariables false
namespace Go.TM
open Go
def nM (rs:od) (c:Int) (ms:cG):Prop:=∃k,∃hk:k<rs.length,rs[k].1=c∧rs[k].2.1=ms∧c=((k+1:Nat):Int)
theorem nM.same {rs:od} {c:Int} {ms ms':cG} (h:nM rs c ms) (h':nM rs c ms'):ms=ms':=by
 obtain ⟨k,hk,_,e1,e2⟩:=h;obtain ⟨j,hj,_,e3,e4⟩:=h';have:k=j:=by omega
 subst this;exact e1.symm.trans e3
theorem nM.pos {rs:od} {c:Int} {ms:cG} (h:nM rs c ms):1≤c:=by
 obtain ⟨k,_,_,_,e⟩:=h;omega
def jC (ms:cG) (q:Nat):Int:=(ms.getD ((q-1) % ms.length) ((0:Int),())).1
def so (R:Int→Nat) (c:Int) (v:Nat):Int→Nat:=fun x=>if x=c then v else R x
theorem ke (R:Int→Nat) (c:Int) (v:Nat):so R c v c=v:=if_pos rfl
theorem qe (R:Int→Nat) {c x:Int} (v:Nat) (h:¬x=c):so R c v x=R x:=if_neg h
abbrev kk:Type:=Int×Int×Int×Int×ByteArray×Unit
def D2 (ds:List kk) (id:Int) (tx:ByteArray):Prop:=∃e∈ds,e.1=1∧e.2.1=id∧e.2.2.2.2.1=tx
structure NV (rs:od) (R S:Int→Nat) (to_:Int) (t:gN):Prop where
 ring:∃ms,nM rs t.1 ms∧∃q:Nat,t.2.1=((q:Nat):Int)∧1≤q∧q≤R t.1+1∧(q=R t.1+1→t.2.2.1=((S t.1:Nat):Int))∧to_=jC ms q
 seq:t.2.2.1≤((S t.1:Nat):Int)
structure oX (rs:od) (ds:List kk) (R S:Int→Nat) (d:bQ):Prop where
 ring:d.2.2.2.1=0∨nM rs d.2.2.2.1 d.2.2.2.2.1
 join:d.q.q.q.q.1=0∨nM rs d.q.q.q.q.1 d.q.q.q.q.2.1
 words:∀x∈d.q.2.2.1,D2 ds d.1 x.1
 last:Blank (d.q.q.2.2.1,d.q.q.2.2.2.1,d.q.q.2.2.2.2.1,d.q.q.q.1,d.q.q.q.2.1,d.q.q.q.2.2.1,())∨(d.q.q.2.2.1=d.2.2.2.1∧∃q:Nat,d.q.2.2.2.1=((q:Nat):Int)∧1≤q∧q≤R d.2.2.2.1∧d.1=jC d.2.2.2.2.1 q∧d.q.q.2.2.2.1=((q+1:Nat):Int)∧(q=R d.2.2.2.1→d.q.q.2.2.2.2.1=((S d.2.2.2.1:Nat):Int))∧d.q.q.2.2.2.2.1≤((S d.2.2.2.1:Nat):Int))
 held:∀c ms,nM rs c ms→∀q:Nat,1≤q→q≤R c→d.1=jC ms q→(d.q.q.q.2.2.2.2.1=c∧((q:Nat):Int)≤d.q.2.2.2.1)∨(c≤d.q.q.q.2.2.2.1∧¬d.q.q.q.2.2.2.2.1=c∧¬d.q.q.q.q.1=c)
structure Se (rs:od) (ds:List kk) (S:Int→Nat) (N:List sf):Prop where
 aoc:∀c,(N.filter fun e=>decide (e.2.1=c)).map (fun e=>e.2.2.2.1)=(List.range (S c)).map fun k=>((k+1:Nat):Int)
 each:∀e∈N,∃ms,nM rs e.2.1 ms∧(e.2.2.2.2.1,())∈ms∧D2 ds e.2.2.2.2.1 e.q.2.1
structure qL (ds:List kk) (R S:Int→Nat) (w:dj):Prop where
 pV:∀d∈w.2.1,oX w.1 ds R S d
 KW:∀x∈w.2.2.1,x.1=2→NV w.1 R S x.2.1 (x.q.2.2.1,x.q.2.2.2.1,x.q.2.2.2.2.1,x.q.q.1,x.q.q.2.1,x.q.q.2.2.1,())
 none_:∀c,R c=0→S c=0
 num:Se w.1 ds S w.2.2.2.1
structure Calm (d r:bQ):Prop where
 id:r.1=d.1
 ring:r.2.2.2.1=d.2.2.2.1∧r.2.2.2.2.1=d.2.2.2.2.1
 round:r.q.2.2.2.1=d.q.2.2.2.1
 last:(r.q.q.2.2.1,r.q.q.2.2.2.1,r.q.q.2.2.2.2.1,r.q.q.q.1,r.q.q.q.2.1,r.q.q.q.2.2.1,())=((d.q.q.2.2.1,d.q.q.2.2.2.1,d.q.q.2.2.2.2.1,d.q.q.q.1,d.q.q.q.2.1,d.q.q.q.2.2.1,()):gN)
 yE:r.q.q.q.2.2.2.1=d.q.q.q.2.2.2.1
 old:r.q.q.q.2.2.2.2.1=d.q.q.q.2.2.2.2.1
 join:r.q.q.q.q.1=d.q.q.q.q.1∧r.q.q.q.q.2.1=d.q.q.q.q.2.1
theorem oX.calm {rs:od} {ds:List kk} {R S:Int→Nat} {d r:bQ} (h:oX rs ds R S d) (hc:Calm d r) (hw:∀x∈r.q.2.2.1,D2 ds r.1 x.1):oX rs ds R S r:=by
 have h12:r.q.q.2.2.1=d.q.q.2.2.1:=congrArg (fun z:gN=>z.1) hc.last;have h13:r.q.q.2.2.2.1=d.q.q.2.2.2.1:=congrArg (fun z:gN=>z.2.1) hc.last;have h14:r.q.q.2.2.2.2.1=d.q.q.2.2.2.2.1:=congrArg (fun z:gN=>z.2.2.1) hc.last;refine { ring := ?_,join := ?_,words:=hw,last := ?_,held := ?_ }
 ·rw [hc.ring.1,hc.ring.2];exact h.ring
 ·rw [hc.join.1,hc.join.2];exact h.join
 ·rw [hc.last,h12,h13,h14,hc.ring.1,hc.ring.2,hc.round,hc.id];exact h.last
 ·rw [hc.id,hc.old,hc.round,hc.yE,hc.join.1];exact h.held
theorem oX.install {rs:od} {ds:List kk} {R S:Int→Nat} {d:bQ} (h:oX rs ds R S d) (hj:¬d.q.q.q.q.1=0) (j3:d.q.q.q.2.2.2.2.1+1≤d.q.q.q.q.1∧d.q.q.q.q.1≤d.q.q.q.2.2.2.1):oX rs ds R S (fm d):=by
 refine { ring:=.inr (h.join.resolve_left hj),join:=.inl rfl,words:=h.words,last:=.inl ⟨rfl,rfl,rfl,rfl,rfl,rfl⟩,held:=fun c ms hr k k1 k2 k3=>.inr ?_ };have hc:=hr.pos;rcases h.held c ms hr k k1 k2 k3 with ⟨e1,_⟩ | ⟨e1,e2,e3⟩
 ·exact ⟨by show c≤d.q.q.q.2.2.2.1;omega,by show ¬d.q.q.q.q.1=c;omega,by show ¬(0:Int)=c;omega⟩
 ·exact ⟨e1,e3,by show ¬(0:Int)=c;omega⟩
theorem oX.dead {rs:od} {ds:List kk} {R S:Int→Nat} {d:bQ} (q:vu d) (h:oX rs ds R S d):oX rs ds R S (JW d):=by
 refine { ring:=.inl rfl,join:=.inl rfl,words:=(fun x hx=>by cases hx),last:=.inl ⟨rfl,rfl,rfl,rfl,rfl,rfl⟩,held:=fun c ms hr k k1 k2 k3=>.inr ?_ };have hc:=hr.pos;have ho:=q.old;refine ⟨?_,by show ¬(0:Int)=c;omega,by show ¬(0:Int)=c;omega⟩;show c≤d.q.q.q.2.2.2.1;rcases h.held c ms hr k k1 k2 k3 with ⟨e1,_⟩ | ⟨e1,_⟩
 ·omega
 ·exact e1
theorem oX.ajH {rs:od} {ds:List kk} {R S:Int→Nat} {d:bQ} (q:vu d) (h:oX rs ds R S d) {c:Int} {ms:cG} (hr:nM rs c ms) (dB:d.q.q.q.2.2.2.1<c):oX rs ds R S (yI d c ms):=by
 have ho:=q.old;refine { ring:=h.ring,join:=.inr hr,words:=h.words,last:=h.last,held:=fun c' ms' ZZ k k1 k2 k3 => ?_ };rcases h.held c' ms' ZZ k k1 k2 k3 with e | ⟨e1,e2,_⟩
 ·exact .inl e
 ·exact .inr ⟨by show c'≤c;omega,e2,by show ¬c=c';omega⟩
end Go.TM
set_option linter.unusedSimpArgs false
set_option linter.unusedVariables false
namespace Go.TM
open Go
theorem aiE {rs:od} {ds:List kk} {R S:Int→Nat} {d:bQ} (h:oX rs ds R S d) {t:gN} (hT:NV rs R S d.1 t) (ho:d.q.q.q.2.2.2.2.1=t.1) (dB:d.q.2.2.2.1<t.2.1) :
  t.2.1=((R t.1+1:Nat):Int)∧t.2.2.1=((S t.1:Nat):Int)∧∃ms,nM rs t.1 ms∧d.1=jC ms (R t.1+1):=by
 obtain ⟨ms,hr,q,q1,q2,q3,q4,q5⟩:=hT.ring;have:q=R t.1+1:=by
  by_cases e:q≤R t.1
  ·rcases h.held _ ms hr q q2 e q5 with ⟨_,e2⟩ | ⟨_,e2,_⟩
   ·omega
   ·exact absurd ho e2
  ·omega
 subst this;exact ⟨q1,q4 rfl,ms,hr,q5⟩
theorem abE {rs:od} {ds:List kk} {R S:Int→Nat} {d:bQ} (h:oX rs ds R S d) (hS:∀c,R c=0→S c=0) {c:Int} {ms:cG} (hr:nM rs c ms) (ho:d.q.q.q.2.2.2.2.1=c) (h0:d.q.2.2.2.1=0) (hd:d.1=jC ms 1) :
  NV rs R S d.1 (c,1,0,0,0,[],()):=by
 have hR:R c=0:=by
  by_cases e:1≤R c
  ·rcases h.held c ms hr 1 (Nat.le_refl _) e hd with ⟨_,e2⟩ | ⟨_,e2,_⟩
   ·omega
   ·exact absurd ho e2
  ·omega
 have hS:=hS c hR;exact ⟨⟨ms,hr,1,rfl,Nat.le_refl _,by show 1≤R c+1;omega,(fun _=>by show (0:Int)=((S c:Nat):Int);omega),hd⟩,by show (0:Int)≤((S c:Nat):Int);omega⟩
theorem NV.up {rs:od} {R S:Int→Nat} {to_:Int} {t:gN} (h:NV rs R S to_ t) (c:Int) (j:Nat):NV rs (so R c (R c+1)) (so S c (S c+j)) to_ t:=by
 obtain ⟨ms,hr,q,q1,q2,q3,q4,q5⟩:=h.ring;have hs:=h.seq
 by_cases e:t.1=c
 ·have e1:so R c (R c+1) t.1=R c+1:=by rw [e];exact ke _ _ _
  have e2:so S c (S c+j) t.1=S c+j:=by rw [e];exact ke _ _ _
  rw [e] at q3 hs;exact ⟨⟨ms,hr,q,q1,q2,by rw [e1];omega,(fun e3=>by rw [e1] at e3;omega),q5⟩,by rw [e2];omega⟩
 ·have e1:so R c (R c+1) t.1=R t.1:=qe _ _ e;have e2:so S c (S c+j) t.1=S t.1:=qe _ _ e;exact ⟨⟨ms,hr,q,q1,q2,by rw [e1];exact q3,(fun e3=>by rw [e2];rw [e1] at e3;exact q4 e3),q5⟩,by rw [e2];exact hs⟩
theorem oX.other {rs:od} {ds:List kk} {R S:Int→Nat} {d:bQ} (h:oX rs ds R S d) {c:Int} {ms:cG} (hr:nM rs c ms) (mn:¬d.1=jC ms (R c+1)) (j:Nat):oX rs ds (so R c (R c+1)) (so S c (S c+j)) d:=by
 refine { ring:=h.ring,join:=h.join,words:=h.words,last := ?_,held:=fun c' ms' ZZ q q1 q2 q3 => ?_ }
 ·rcases h.last with b | ⟨l1,q,l2,l3,l4,l5,l6,l7,l8⟩
  ·exact .inl b
  ·refine .inr ⟨l1,q,l2,l3,?_,l5,l6,?_,?_⟩
   ·by_cases e:d.2.2.2.1=c
    ·rw [e,ke];rw [e] at l4;omega
    ·rw [qe _ _ e];exact l4
   ·by_cases e:d.2.2.2.1=c
    ·intro e2;rw [e,ke] at e2;rw [e] at l4;omega
    ·rw [qe _ _ e,qe _ _ e];exact l7
   ·by_cases e:d.2.2.2.1=c
    ·rw [e,ke];rw [e] at l8;omega
    ·rw [qe _ _ e];exact l8
 ·by_cases e:c'=c
  ·subst e;have:=hr.same ZZ;subst this;rw [ke] at q2
   by_cases e2:q=R c'+1
   ·rw [e2] at q3;exact absurd q3 mn
   ·exact h.held c' ms hr q q1 (by omega) q3
  ·rw [qe _ _ e] at q2;exact h.held c' ms' ZZ q q1 q2 q3
theorem oX.holds {rs:od} {ds:List kk} {R S:Int→Nat} {d r:bQ} (h:oX rs ds R S d) {c:Int} {ms:cG} (hr:nM rs c ms) (hd:d.1=jC ms (R c+1)) {j j2:Nat} {nx:gN}
  (e1:r.1=d.1) (e3:r.2.2.2.1=c) (e3':d.2.2.2.1=c) (e4:r.2.2.2.2.1=ms) (e7:r.q.2.2.1=(d.q.2.2.1).drop j2) (e8:r.q.2.2.2.1=((R c+1:Nat):Int)) (eL:((r.q.q.2.2.1,r.q.q.2.2.2.1,r.q.q.2.2.2.2.1,r.q.q.q.1,r.q.q.q.2.1,r.q.q.q.2.2.1,()):gN)=nx) (e18:r.q.q.q.2.2.2.1=d.q.q.q.2.2.2.1) (e19:r.q.q.q.2.2.2.2.1=d.q.q.q.2.2.2.2.1) (e20:r.q.q.q.q.1=d.q.q.q.q.1∧r.q.q.q.q.2.1=d.q.q.q.q.2.1) (ho:d.q.q.q.2.2.2.2.1=c)
  (hn:nx.1=c∧nx.2.1=((R c+1+1:Nat):Int)∧nx.2.2.1=((S c+j:Nat):Int)):oX rs ds (so R c (R c+1)) (so S c (S c+j)) r:=by
 have h12:r.q.q.2.2.1=nx.1:=congrArg (fun z:gN=>z.1) eL;have h13:r.q.q.2.2.2.1=nx.2.1:=congrArg (fun z:gN=>z.2.1) eL;have h14:r.q.q.2.2.2.2.1=nx.2.2.1:=congrArg (fun z:gN=>z.2.2.1) eL;refine { ring:=.inr (by rw [e3,e4];exact hr),join:=by rw [e20.1,e20.2];exact h.join,words:=(fun x hx => ?_),last:=.inr ⟨by rw [h12,e3];exact hn.1,R c+1,e8,by omega,by rw [e3,ke];exact Nat.le_refl _,by rw [e1,e4];exact hd,by rw [h13];exact hn.2.1,(fun _=>by rw [e3,ke,h14];exact hn.2.2),by rw [e3,ke,h14,hn.2.2];exact Int.le_refl _⟩,held:=fun c' ms' ZZ q q1 q2 q3 => ?_ }
 ·rw [e7] at hx;rw [e1];exact h.words x (List.mem_of_mem_drop hx)
 ·by_cases e:c'=c
  ·subst e;rw [ke] at q2;exact .inl ⟨by rw [e19];exact ho,by rw [e8];omega⟩
  ·rw [qe _ _ e] at q2;rw [e1] at q3;rcases h.held c' ms' ZZ q q1 q2 q3 with ⟨g1,_⟩ | ⟨g1,g2,g3⟩
   ·exact absurd (g1.symm.trans ho) e
   ·exact .inr ⟨by rw [e18];exact g1,by rw [e19];exact g2,by rw [e20.1];exact g3⟩
theorem Mn {m m':ia} {t:gN} {said:aZ} {j:Nat} {nx:gN} (H:Zx m t m' said j nx) (hT:Gf t) (c:Int) (ms:cG):jI c ms t said=eA c ms (de t.2.2.1 m.1 m.2.2.2.2.1 m.q.1 j):=by
 have h1:∀x∈qX t m.2.2.2.1,¬t.2.2.1<x.1:=fun x hx=>by
  have hw:=(List.mem_filter.1 hx).2;rw [decide_eq_true_eq] at hw;unfold cE at hw;obtain ⟨y,hy,e⟩:=List.mem_map.1 hw;obtain ⟨k,hk,rfl⟩:=List.mem_iff_getElem.1 hy;have:=(hT.q.2 k hk hk).2.1;omega
 have h2:∀x∈de t.2.2.1 m.1 m.2.2.2.2.1 m.q.1 j,t.2.2.1<x.1:=fun x hx=>by
  obtain ⟨i,hi,rfl⟩:=Fa hx;show t.2.2.1<t.2.2.1+((i+1:Nat):Int);omega
 unfold jI;rw [H.said,List.filter_append,List.filter_eq_nil_iff.2 (fun x hx=>by rw [decide_eq_true_eq];exact h1 x hx),List.nil_append,List.filter_eq_self.2 (fun x hx=>decide_eq_true (h2 x hx))]
theorem Se.more {rs:od} {ds:List kk} {S:Int→Nat} {N:List sf} (h:Se rs ds S N) {c:Int} {ms:cG} (hr:nM rs c ms) {id:Int} (mS:(id,())∈ms) {lv:cG} {tx:List (ByteArray×Unit)} (hw:∀x∈tx,D2 ds id x.1) {j:Nat} (hj:j≤tx.length) :
  Se rs ds (so S c (S c+j)) (N++eA c ms (de ((S c:Nat):Int) id lv tx j)):=by
 refine ⟨fun c' => ?_,fun e he => ?_⟩
 ·rw [List.filter_append,List.map_append,h.aoc c'];have hm:∀e∈eA c ms (de ((S c:Nat):Int) id lv tx j),e.2.1=c:=fun e he=>by
   obtain ⟨x,_,rfl⟩:=List.mem_map.1 he;rfl
  by_cases e:c'=c
  ·subst e;rw [ke,List.filter_eq_self.2 (fun x hx=>decide_eq_true (hm x hx)),List.range_add,List.map_append]
   congr 1
   unfold eA de;rw [List.map_map,List.map_map,List.map_map];refine List.map_congr_left fun k _ => ?_
   show ((S c':Nat):Int)+((k+1:Nat):Int)=((S c'+k+1:Nat):Int);omega
  ·rw [qe _ _ e,List.filter_eq_nil_iff.2 (fun x hx=>by rw [hm x hx,decide_eq_true_eq];exact fun g=>e g.symm)];exact List.append_nil _
 ·rcases List.mem_append.1 he with he | he
  ·exact h.each e he
  ·obtain ⟨x,hx,rfl⟩:=List.mem_map.1 he;obtain ⟨k,hk,rfl⟩:=Fa hx;refine ⟨ms,hr,mS,?_⟩;have dB:k<tx.length:=by omega
   show D2 ds id (tx.getD k (ByteArray.empty,())).1;rw [List.getD_eq_getElem?_getD,List.getElem?_eq_getElem dB,Option.getD_some];exact hw _ (List.getElem_mem dB)
end Go.TM
set_option linter.unusedSimpArgs false
set_option linter.unusedVariables false
namespace Go.TM
open Go
theorem ZR {ms:cG} (h:Nt ms ms.length) {i j:Nat} (hi:i<ms.length) (hj:j<ms.length) (e:ms[i].1=ms[j].1):i=j:=by
 by_cases h1:i<j
 ·have:=yJ h hj h1;omega
 by_cases h2:j<i
 ·have:=yJ h hi h2;omega
 omega
theorem Qb {c:Int} {ms:cG} (hr:oV c ms) {q:Nat} (hq:1≤q):ig c ms (jC ms q)=some (jC ms (q+1),()):=by
 have hl:=hr.2.1;have hk:(q-1) % ms.length<ms.length:=Nat.mod_lt _ (by omega);have e1:jC ms q=(ms[(q-1) % ms.length]).1:=by
  unfold jC;rw [List.getD_eq_getElem?_getD,List.getElem?_eq_getElem hk,Option.getD_some]
 have e2:((q-1) % ms.length+1) % ms.length=(q+1-1) % ms.length:=by
  rw [Nat.mod_add_mod]
  congr 1
  omega
 have e3:jC ms (q+1)=(ms.getD (((q-1) % ms.length+1) % ms.length) ((0:Int),())).1:=by
  unfold jC;rw [e2]
 rw [e3,e1];generalize (q-1) % ms.length=k at hk;have hm:(k+1) % ms.length<ms.length:=Nat.mod_lt _ (by omega);rw [List.getD_eq_getElem?_getD,List.getElem?_eq_getElem hm,Option.getD_some];have h:=(qo c ms (by omega)).1;rw [(qo c ms (by omega)).2.2.2 hr] at h;obtain ⟨e,he,hq⟩:=dU (round:=fE) (x:=(ms[k].1,c,ms,((0:Nat):Int),())) ms.length (fun j x=>x=(ms[k].1,c,ms,((j:Nat):Int),())∧j≤k) (fun e=>e=.inr (ms[(k+1) % ms.length].1,())) (by
   rintro x ⟨_,g⟩
   omega) (by
   rintro j x hj ⟨rfl,g⟩
   simp only [fE,ax,oM,aD hj,au,cond_true,aC,List.getElem?_eq_getElem hj,Option.bind_some,aH (show j<4611686018427387904 by omega),ZG,ak (show ¬((List.length ms:Nat):Int)=0 by omega),cond_false]
   by_cases e:ms[j].1=ms[k].1
   ·have:=ZR hr.2.2 hj hk e;subst this;rw [aq e,List.getElem?_eq_getElem hm];exact .inl ⟨_,rfl,rfl⟩
   ·rw [ak e];refine .inr ⟨_,rfl,rfl,?_⟩
    by_cases e2:j=k
    ·subst e2;exact absurd rfl e
    ·omega) ⟨rfl,Nat.zero_le _⟩
 have he:aI fE (ms[k].1,c,ms,(0:Int),())=some e:=he;subst hq;unfold ig;rw [h];simp only [Option.bind_some,Bool.not_true,cond_false,he,bU]
theorem qL.Fo {ds:List kk} {R S:Int→Nat} {w:dj} (h:qL ds R S w) {l:List uR} (hl:∀x∈l,x∈w.2.2.1∨¬x.1=2):qL ds R S (dW w l):=
 { pV:=h.pV,KW:=fun x hx h2=>(hl x hx).elim (fun g=>h.KW x g h2) (fun g=>absurd h2 g),none_:=h.none_,num:=h.num }
theorem qL.pz {ds:List kk} {R S:Int→Nat} {w:dj} (h:qL ds R S w) (k:Nat) {d:bQ} (hd:oX w.1 ds R S d):qL ds R S (pz w k d):=
 {
  pV:=fun x hx=>by
   have hx:x∈w.2.1.set k d:=hx;rcases List.mem_or_eq_of_mem_set hx with hx | rfl
   ·exact h.pV x hx
   ·exact hd
  KW:=h.KW
  none_:=h.none_
  num:=h.num }
theorem qL.again {ds:List kk} {R S:Int→Nat} {w:dj} (h:qL ds R S w) {d:bQ} (hd:d∈w.2.1) (hb:¬Blank (d.q.q.2.2.1,d.q.q.2.2.2.1,d.q.q.2.2.2.2.1,d.q.q.q.1,d.q.q.q.2.1,d.q.q.q.2.2.1,())) (ho:¬d.2.2.2.1=0) {l:List uR} (hl:∀x∈l,x∈w.2.2.1∨¬x.1=2) :
  ∃q:Nat,1≤q∧d.1=jC d.2.2.2.2.1 q∧qL ds R S (dW w (l++[jt (jC d.2.2.2.2.1 (q+1)) d.2.2.2.1 (d.q.q.2.2.1,d.q.q.2.2.2.1,d.q.q.2.2.2.2.1,d.q.q.q.1,d.q.q.q.2.1,d.q.q.q.2.2.1,())])):=by
 obtain ⟨l1,q,l2,l3,l4,l5,l6,l7,l8⟩:=(h.pV d hd).last.resolve_left hb;refine ⟨q,l3,l5,{ pV:=h.pV,KW:=fun x hx h2 => ?_,none_:=h.none_,num:=h.num }⟩;have hx:x∈l++[jt (jC d.2.2.2.2.1 (q+1)) d.2.2.2.1 (d.q.q.2.2.1,d.q.q.2.2.2.1,d.q.q.2.2.2.2.1,d.q.q.q.1,d.q.q.q.2.1,d.q.q.q.2.2.1,())]:=hx;rcases List.mem_append.1 hx with hx | hx
 ·exact (hl x hx).elim (fun g=>h.KW x g h2) (fun g=>absurd h2 g)
 ·rw [List.mem_singleton] at hx;subst hx;have hr:=(h.pV d hd).ring.resolve_left ho;rw [←l1] at hr l4 l7 l8;exact ⟨⟨d.2.2.2.2.1,hr,q+1,l6,by omega,by show q+1≤R d.q.q.2.2.1+1;omega,(fun e=>l7 (by
   have e:q+1=R d.q.q.2.2.1+1:=e;omega)),rfl⟩,l8⟩
theorem qL.token {ds:List kk} {R S:Int→Nat} {w:dj} (h:qL ds R S w) (aod:∀i (hi:i<w.2.1.length),(w.2.1[i]).1=((i+1:Nat):Int)) {k:Nat} (hk:k<w.2.1.length) {d:bQ} (hd:w.2.1[k]=d)
  (hq:ra (az d)) (ho:d.q.q.q.2.2.2.2.1=d.2.2.2.1) (hi:d.2.2.1=d.1) {t:gN} (hTQ:Gf t) (hT:NV w.1 R S d.1 t) (dB:d.q.2.2.2.1<t.2.1) (hc:t.1=d.2.2.2.1) {m:ia} {said:aZ} {j:Nat} {nx:gN} (H:Zx (az d) t m said j nx)
  {l:List uR} (hl:∀x∈l,x∈w.2.2.1∨¬x.1=2) :
  d.1=jC d.2.2.2.2.1 (R t.1+1)∧qL ds (so R t.1 (R t.1+1)) (so S t.1 (S t.1+j)) (w.1,w.2.1.set k (ed (bE d m)),l++[jt (jC d.2.2.2.2.1 (R t.1+1+1)) d.2.2.2.1 nx],w.2.2.2.1++jI d.2.2.2.1 d.2.2.2.2.1 t said,()):=by
 have hdm:d∈w.2.1:=by rw [←hd];exact List.getElem_mem hk
 have hD:=h.pV d hdm;obtain ⟨q1,q2,ms,hr,q5⟩:=aiE hD hT (ho.trans hc.symm) dB;have h30:¬d.2.2.2.1=0:=by
  have h1:1≤(az d).2.1:=hq.ring.1.1;have h1:1≤d.2.2.2.1:=h1;omega
 have hr4:=hD.ring.resolve_left h30;rw [←hc] at hr4;have e4:=hr.same hr4;subst e4;obtain ⟨v,_,eR,_⟩:=Ch H.nq;have er:ed (bE d m)=lJ (bE (bE d m) (vR m (m.q.2.2.2.2.1+((v:Nat):Int)))) (iJ m.2.2.2.1 m.q.2.2.2.2.1 v):=by
  show lJ (bE (bE d m) (cB m).1) (cB m).2=_;rw [eR]
 refine ⟨q5,{ pV:=fun x hx => ?_,KW:=fun x hx h2 => ?_,none_:=fun c e => ?_,num := ?_ }⟩
 ·have hx:x∈w.2.1.set k (ed (bE d m)):=hx;obtain ⟨i,T1,rfl⟩:=List.mem_iff_getElem.1 hx;have hi3:i<w.2.1.length:=by rw [List.length_set] at T1;exact T1
  rw [List.getElem_set]
  split
  ·rw [er];refine hD.holds hr q5 rfl ?_ hc.symm ?_ ?_ ?_ ?_ rfl rfl ⟨rfl,rfl⟩ (ho.trans hc.symm) ⟨?_,?_,?_⟩ (j2:=j) (nx:=nx)
   ·exact H.id.2.1.trans hc.symm
   ·exact H.id.2.2
   ·exact H.words.2
   ·exact H.round.1.trans q1
   ·exact H.last
   ·exact H.next.1
   ·rw [H.next.2.1,q1];omega
   ·rw [H.next.2.2,q2];omega
  ·rename_i mn;refine (h.pV _ (List.getElem_mem hi3)).other hr (fun e=>mn ?_) j;have h1:=aod i hi3;have h2:=aod k hk;rw [hd] at h2;have e:(w.2.1[i]).1=d.1:=e.trans q5.symm;omega
 ·have hx:x∈l++[jt (jC d.2.2.2.2.1 (R t.1+1+1)) d.2.2.2.1 nx]:=hx;rcases List.mem_append.1 hx with hx | hx
  ·exact (hl x hx).elim (fun g=>(h.KW x g h2).up t.1 j) (fun g=>absurd h2 g)
  ·rw [List.mem_singleton] at hx;subst hx;have n1:=H.next.1;refine ⟨⟨d.2.2.2.2.1,?_,R t.1+1+1,?_,by omega,?_,(fun _ => ?_),rfl⟩,?_⟩
   ·show nM w.1 nx.1 d.2.2.2.2.1;rw [n1];exact hr
   ·show nx.2.1=_;rw [H.next.2.1,q1];omega
   ·show R t.1+1+1≤so R t.1 (R t.1+1) nx.1+1;rw [n1,ke];exact Nat.le_refl _
   ·show nx.2.2.1=((so S t.1 (S t.1+j) nx.1:Nat):Int);rw [n1,ke,H.next.2.2,q2];omega
   ·show nx.2.2.1≤((so S t.1 (S t.1+j) nx.1:Nat):Int);rw [n1,ke,H.next.2.2,q2];omega
 ·by_cases e2:c=t.1
  ·subst e2;rw [ke] at e;omega
  ·rw [qe _ _ e2] at e ⊢;exact h.none_ c e
 ·show Se w.1 ds _ (w.2.2.2.1++jI d.2.2.2.1 d.2.2.2.2.1 t said);rw [Mn H hTQ,←hc,q2];have Ef:((az d).1,())∈d.2.2.2.2.1:=hq.mem;have mS:(az d).1=d.1:=hi;refine h.num.more hr Ef (fun x hx => ?_) H.E8.2.1;rw [mS];exact hD.words x hx
end Go.TM
set_option linter.unusedSimpArgs false
set_option linter.unusedVariables false
namespace Go.TM
open Go
theorem Calm.refl (d:bQ):Calm d d:=⟨rfl,⟨rfl,rfl⟩,rfl,rfl,rfl,rfl,⟨rfl,rfl⟩⟩
theorem aof {rs:od} {ds:List kk} {R S:Int→Nat} {d:bQ} (h:oX rs ds R S d) {level:Int} {text:ByteArray} (he:D2 ds d.1 text):oX rs ds R S (bE d (To (az d) level text)):=by
 refine h.calm ⟨rfl,⟨rfl,rfl⟩,rfl,rfl,rfl,rfl,⟨rfl,rfl⟩⟩ fun x hx => ?_
 have hx:x∈d.q.2.2.1++[(text,())]:=hx;rcases List.mem_append.1 hx with hx | hx
 ·exact h.words x hx
 ·rw [List.mem_singleton] at hx;subst hx;exact he
theorem Sf (m:ia) (x:ez):∃l,pT m x=CG m l:=by
 unfold pT
 cases uN m
 ·exact ⟨m.2.2.2.1,rfl⟩
 ·exact ⟨_,rfl⟩
theorem Sg {d:bQ} {m:ia} (hm:ra m):∃(v:Int) (l:aZ),ed (bE d m)=lJ (bE (bE d m) (vR m v)) l:=by
 obtain ⟨v,_,eR,_⟩:=Ch hm;refine ⟨m.q.2.2.2.2.1+((v:Nat):Int),iJ m.2.2.2.1 m.q.2.2.2.2.1 v,?_⟩;show lJ (bE (bE d m) (cB m).1) (cB m).2=_;rw [eR]
theorem aiF {n:Nat} {rs:od} {ds:List kk} {R S:Int→Nat} {d:bQ} (g:mm n d) (hn:n≤100) (h:oX rs ds R S d) (tR:Int) (x:ez):oX rs ds R S (px d tR x):=by
 unfold px
 cases hc:(eO d&&decide (d.q.q.q.2.2.2.2.1=tR))
 ·exact h
 ·simp only [Bool.and_eq_true] at hc;obtain ⟨m1,_,_,_⟩:=jZ (g.small hn) hc.1;have c1:=(Tw m1 x).1;obtain ⟨l,el⟩:=Sf (az d) x;rw [el] at c1 ⊢;obtain ⟨v,l2,e⟩:=Sg (d:=d) c1;show oX rs ds R S (ed (bE d (CG (az d) l)));rw [e];exact h.calm ⟨rfl,⟨rfl,rfl⟩,rfl,rfl,rfl,rfl,⟨rfl,rfl⟩⟩ h.words
theorem aog {n:Nat} {rs:od} {ds:List kk} {R S:Int→Nat} {d:bQ} (g:mm n d) (h:oX rs ds R S d) {b:eC} (ht:(bt d b).2=true):oX rs ds R S (bt d b).1:=by
 unfold bt at ht ⊢
 cases hb:w5 d b
 ·rw [hb] at ht;cases ht
 ·have Ie:=hb;unfold w5 at Ie;simp only [Bool.and_eq_true,Bool.not_eq_true',decide_eq_false_iff_not] at Ie;have hj:=Ie.2.2.1;obtain ⟨_,_,j3,_⟩:=g.q.nX.resolve_left fun e=>hj e.1
  have hc:oX rs ds R S (eX d (d.q.q.q.q.2.2.1++[b])):=h.calm ⟨rfl,⟨rfl,rfl⟩,rfl,rfl,rfl,rfl,⟨rfl,rfl⟩⟩ h.words;show oX rs ds R S (fy d b);unfold fy
  cases ld d.q.q.q.q.1 d.q.q.q.q.2.1 (d.q.q.q.q.2.2.1++[b])
  ·exact hc
  ·exact hc.install hj j3
theorem aiG {rs:od} {ds:List kk} {R S:Int→Nat} {d:bQ} (q:vu d) (h:oX rs ds R S d) {c:Int} {ms:cG} (hr:nM rs c ms) (dB:d.q.q.q.2.2.2.1<c):oX rs ds R S (qJ d c ms):=by
 have hg:=h.ajH q hr dB;have ho:=q.old;have hc:=hr.pos;unfold qJ
 cases ld c ms [gh d c]
 ·exact hg
 ·exact hg.install (by show ¬c=0;omega) ⟨by show d.q.q.q.2.2.2.2.1+1≤c;omega,Int.le_refl _⟩
theorem aiH {rs:od} {ds:List kk} {R S:Int→Nat} {d:bQ} (h:oX rs ds R S d):oX rs ds R S (acE d):=h.calm ⟨rfl,⟨rfl,rfl⟩,rfl,rfl,rfl,rfl,⟨rfl,rfl⟩⟩ h.words
end Go.TM
set_option linter.unusedSimpArgs false
set_option linter.unusedVariables false
namespace Go.TM
open Go
theorem Sh (ds:List kk) {rs:od}:qL ds (fun _=>0) (fun _=>0) (cL rs):=
 {
  pV:=fun d hd=>by
   have hd:d∈kh 5:=hd;unfold kh at hd;obtain ⟨k,hk,rfl⟩:=List.mem_map.1 hd;exact { ring:=.inl rfl,join:=.inl rfl,words:=(fun x hx=>by cases hx),last:=.inl ⟨rfl,rfl,rfl,rfl,rfl,rfl⟩,held:=fun c ms _ q q1 q2 _=>by omega }
  KW:=fun x hx=>by cases hx
  none_:=fun _ _=>rfl
  num:=⟨fun _=>rfl,fun e he=>by cases he⟩ }
theorem Se.at {rs:od} {ds:List kk} {S:Int→Nat} {N:List sf} (h:Se rs ds S N) {i:Nat} (hi:i<N.length):(N[i]).2.2.2.1=((((N.take i).filter fun e=>decide (e.2.1=(N[i]).2.1)).length+1:Nat):Int):=by
 have h1:=h.aoc (N[i]).2.1;generalize hc:(N[i]).2.1=c at h1;have hs:N=N.take i++N[i]::N.drop (i+1):=by rw [←List.drop_eq_getElem_cons hi,List.take_append_drop]
 have h2:N.filter (fun e=>decide (e.2.1=c))=(N.take i).filter (fun e=>decide (e.2.1=c))++N[i]::(N.drop (i+1)).filter (fun e=>decide (e.2.1=c)):=by
  conv=>lhs;rw [hs]
  rw [List.filter_append,List.filter_cons,if_pos (decide_eq_true hc)]
 rw [h2] at h1;generalize (N.take i).filter (fun e=>decide (e.2.1=c))=A at h1;have h3:=congrArg (fun l=>l[A.length]?) h1;simp only [List.map_append,List.map_cons] at h3;rw [List.getElem?_append_right (by rw [List.length_map];exact Nat.le_refl _),List.length_map,Nat.sub_self,List.getElem?_cons_zero,List.getElem?_map] at h3
 cases hq:(List.range (S c))[A.length]? with
 |none=>rw [hq] at h3;cases h3
 |some v=>
  rw [hq] at h3;have hv:v=A.length:=by
   obtain ⟨hl,e⟩:=List.getElem?_eq_some_iff.1 hq;rw [List.getElem_range] at e;exact e.symm
  have h3:=Option.some.inj h3;rw [h3,hv]
end Go.TM
set_option linter.unusedSimpArgs false
set_option linter.unusedVariables false
namespace Go.TM
open Go
theorem ZS {m:ia} {t:gN} (h:E9 m t=true):t.1=m.2.1∧m.q.2.1<t.2.1:=by
 unfold E9 at h;simp only [Bool.and_eq_true,decide_eq_true_eq] at h;exact ⟨h.2.2.1,h.2.2.2.1⟩
theorem J7 {ms:cG} {c id:Int} {l:aZ} {x:uR} (h:x∈bZ ms c id l):¬x.1=2:=by
 obtain ⟨m,_,y,_,rfl⟩:=JZ h;intro e;have e:(1:Int)=2:=e;omega
theorem Wc {ms:cG} {c id:Int} {b:eC} {x:uR} (h:x∈fA ms id c b):¬x.1=2:=by
 obtain ⟨m,_,rfl⟩:=J2 h;intro e;have e:(3:Int)=2:=e;omega
theorem acO {n:Nat} {ds:List kk} {R S:Int→Nat} {w:dj} (q:gY n w) (hn:n≤99) (N:qL ds R S w) {k:Nat} {t:gN} {a:Int} {w':dj} (hT:NV w.1 R S ((k+1:Nat):Int) t) (hs:NP w k t a w'):∃R' S',qL ds R' S' w':=by
 cases hs with
 |no=>exact ⟨R,S,N⟩
 |yes hk m said j nx to_ hi hb hTQ H ht _=>
  obtain ⟨hd,mS⟩:=q.pV k hk;obtain ⟨m1,m2,m3,m4⟩:=jZ (hd.small (by omega)) hi;obtain ⟨b1,b2⟩:=ZS hb;obtain ⟨q5,hN⟩:=N.token (fun i hi=>(q.pV i hi).2) hk rfl m1 hd.q.old.1 m2 hTQ (by rw [mS];exact hT) b2 b1 H (l:=w.2.2.1++bZ (az w.2.1[k]).2.2.1 (az w.2.1[k]).2.1 ((k+1:Nat):Int) said) (fun x hx=>(List.mem_append.1 hx).elim .inl fun g=>.inr (J7 g));have RX:=Qb m1.ring (q:=R t.1+1) (by omega);have q5:(w.2.1[k]).1=jC (az w.2.1[k]).2.2.1 (R t.1+1):=q5;rw [←q5,mS] at RX;have e:=congrArg (fun z=>z.1) (Option.some.inj (ht.symm.trans RX));have e:to_=jC (az w.2.1[k]).2.2.1 (R t.1+1+1):=e;subst e;exact ⟨_,_,hN⟩
theorem aoh {n:Nat} {ds:List kk} {R S:Int→Nat} {w:dj} (q:gY n w) (hn:n≤99) (N:qL ds R S w) {k:Nat} {a:Int} {w':dj} (hs:KT w k a w'):∃R' S',qL ds R' S' w':=by
 cases hs with
 |no=>exact ⟨R,S,N⟩
 |yes hk hi hb to_ ht=>
  obtain ⟨hd,mS⟩:=q.pV k hk;obtain ⟨m1,m2,m3,m4⟩:=jZ (hd.small (by omega)) hi;have h30:¬(w.2.1[k]).2.2.2.1=0:=by rw [←hd.q.old.1];exact m4
  have hbl:¬Blank ((w.2.1[k]).q.q.2.2.1,(w.2.1[k]).q.q.2.2.2.1,(w.2.1[k]).q.q.2.2.2.2.1,(w.2.1[k]).q.q.q.1,(w.2.1[k]).q.q.q.2.1,(w.2.1[k]).q.q.q.2.2.1,()):=fun g=>by
   have:=(qd ((w.2.1[k]).q.q.2.2.1,(w.2.1[k]).q.q.2.2.2.1,(w.2.1[k]).q.q.2.2.2.2.1,(w.2.1[k]).q.q.q.1,(w.2.1[k]).q.q.q.2.1,(w.2.1[k]).q.q.q.2.2.1,())).2.2.2 g;rw [hb] at this;cases this
  obtain ⟨q0,q1,q5,hN⟩:=N.again (List.getElem_mem hk) hbl h30 (l:=w.2.2.1) (fun x hx=>.inl hx);have RX:=Qb m1.ring (q:=q0) q1;have q5:(w.2.1[k]).1=jC (az w.2.1[k]).2.2.1 q0:=q5;rw [←q5,mS] at RX;have e:=congrArg (fun z=>z.1) (Option.some.inj (ht.symm.trans RX));have e:to_=jC (az w.2.1[k]).2.2.1 (q0+1):=e;subst e;exact ⟨_,_,qL.Fo hN fun x hx=>(List.mem_append.1 hx).elim .inl fun g=>.inr (J7 g)⟩
theorem aoi {n:Nat} {ds:List kk} {R S:Int→Nat} {w:dj} (q:gY n w) (hr:∀i (hi:i<w.1.length),(w.1[i]).1=((i+1:Nat):Int)) (N:qL ds R S w) {k:Nat} {a:Int} {w':dj} (hs:Gp w k a w'):∃R' S',qL ds R' S' w':=by
 cases hs with
 |none_=>exact ⟨R,S,N⟩
 |fail=>exact ⟨R,S,N⟩
 |yes hk i hi hq hf hb=>
  have hm:=aiG (q.pV k hk).1.q (N.pV _ (List.getElem_mem hk)) (c:=(w.1[i]).1) (ms:=(w.1[i]).2.1) ⟨i,hi,rfl,rfl,hr i hi⟩ (by have:=hq.1;omega);exact ⟨_,_,qL.Fo (N.pz k hm) fun x hx=>(List.mem_append.1 hx).elim .inl fun g=>.inr (Wc g)⟩
theorem aoj {n:Nat} {ds:List kk} {R S:Int→Nat} {w:dj} (q:gY n w) (hn:n≤99) (N:qL ds R S w) {x:uR} (hX:x.1=2→NV w.1 R S x.2.1 (x.q.2.2.1,x.q.2.2.2.1,x.q.2.2.2.2.1,x.q.q.1,x.q.q.2.1,x.q.q.2.2.1,())) {a:Int} {w':dj} (hs:KU w x a w'):∃R' S',qL ds R' S' w':=by
 cases hs with
 |item k hk lf k1=>exact ⟨_,_,N.pz k (aiF (q.pV k hk).1 (by omega) (N.pV _ (List.getElem_mem hk)) _ _)⟩
 |tok k hk lf k2 h=>exact acO q hn N (by rw [←lf];exact hX k2) h
 |TB=>exact ⟨R,S,N⟩
 |bun k hk lf k1 k2 hb=>exact ⟨_,_,N.pz k (aog (q.pV k hk).1 (N.pV _ (List.getElem_mem hk)) hb)⟩
theorem aok {n:Nat} {ds:List kk} {R S:Int→Nat} {w:dj} (q:gY n w) (hn:n≤98) (N:qL ds R S w) {e:w6} {a:Int} {w':dj} (hs:KV w e a w'):∃R' S',qL ds R' S' w':=by
 cases hs with
 |none_=>exact ⟨R,S,N⟩
 |TC j hj ht k5=>exact ⟨_,_,N.Fo fun x hx=>(List.mem_append.1 hx).elim .inl fun g=>.inl (by rw [List.mem_singleton.1 g];exact List.getElem_mem hj)⟩
 |abB j hj ht k5 k4=>exact ⟨_,_,N.Fo fun x hx=>.inl ((List.mem_append.1 hx).elim List.mem_of_mem_take List.mem_of_mem_drop)⟩
 |carry j hj ht k5 k4 h=>
  have hl:∀x∈List.take j w.2.2.1++List.drop (j+1) w.2.2.1,x∈w.2.2.1:=fun x hx=>(List.mem_append.1 hx).elim List.mem_of_mem_take List.mem_of_mem_drop
  have hq:=q.dW (l:=List.take j w.2.2.1++List.drop (j+1) w.2.2.1) (fun x hx=>q.lets x (hl x hx)) (by have:=q.E8;rw [List.length_append,List.length_take,List.length_drop];omega);exact aoj hq (by omega) (N.Fo fun x hx=>.inl (hl x hx)) (fun g=>N.KW _ (List.getElem_mem hj) g) h
theorem awj {n:Nat} {ds:List kk} {R S:Int→Nat} {w:dj} (q:gY n w) (hn:n≤98) (hr:∀i (hi:i<w.1.length),(w.1[i]).1=((i+1:Nat):Int)) (N:qL ds R S w) {e:w6} (he:e∈ds) {a:Int} {w':dj} (hs:Qj w e a w'):∃R' S',qL ds R' S' w':=by
 cases hs with
 |TD=>exact ⟨R,S,N⟩
 |say k hk lf k1 hb=>
  obtain ⟨hd,mS⟩:=q.pV k hk;unfold bR at hb ⊢
  cases hc:kj w.2.1[k]&&(!(w.2.1[k]).2.1&&(!decide ((w.2.1[k]).q.q.q.2.2.2.2.1=0)&&(eS (az w.2.1[k]) e.2.2.2.1 e.2.2.2.2.1).2))
  ·rw [hc] at hb;cases hb
  ·simp only [Bool.and_eq_true] at hc;have h1:=hc.2.2.2;unfold eS at h1 ⊢
   cases hm:VS (az w.2.1[k]) e.2.2.2.1 e.2.2.2.2.1
   ·rw [hm] at h1;cases h1
   ·exact ⟨_,_,N.pz k (aof (N.pV _ (List.getElem_mem hk)) ⟨e,he,k1,lf.trans mS.symm,rfl⟩)⟩
 |HC=>exact ⟨R,S,N⟩
 |first k hk lf k2 t hF h=>
  obtain ⟨hd,mS⟩:=q.pV k hk;have hW:=hd.small (by omega);obtain ⟨hi,h8,rfl,m,hm,hm1⟩:=NR w.2.1[k] hW hF;obtain ⟨m1,m2,m3,m4⟩:=jZ hW hi;have h30:¬(w.2.1[k]).2.2.2.1=0:=by rw [←hd.q.old.1];exact m4
  have hD:=N.pV _ (List.getElem_mem hk);have h1:=abE hD N.none_ (hD.ring.resolve_left h30) hd.q.old.1 h8 (by
   unfold jC;rw [List.getD_eq_getElem?_getD,show (1-1) % ((w.2.1[k]).2.2.2.2.1).length=0 from Nat.zero_mod _,hm,Option.getD_some];exact hm1.symm)
  rw [mS] at h1;exact acO q (by omega) N h1 h
 |again k hk lf k6 h=>exact aoh q (by omega) N h
 |move k hk lf k7 h=>exact aoi q hr N h
 |HD=>exact ⟨R,S,N⟩
 |TE k hk lf k8 hb=>exact ⟨_,_,N.pz k ((N.pV _ (List.getElem_mem hk)).dead (q.pV k hk).1.q)⟩
 |NS=>exact ⟨R,S,N⟩
 |abC k hk lf k9 hb=>
  unfold cA at hb ⊢
  cases hc:kj w.2.1[k]&&(w.2.1[k]).2.1
  ·rw [hc] at hb;cases hb
  ·exact ⟨_,_,N.pz k (aiH (N.pV _ (List.getElem_mem hk)))⟩
 |NT k hk lf Wm h=>exact aok q hn N h
end Go.TM
set_option linter.unusedSimpArgs false
set_option linter.unusedVariables false
namespace Go.TM
open Go
theorem acP {c:Int} {ms:cG} {id to_:Int} (h:ms.length≤1048576) (e:ig c ms id=some (to_,())):qT c ms id=some (to_,()):=by
 obtain ⟨b,n1,n2⟩:=V4 c id ms h;rw [n1] at e;rw [n2];exact e
theorem Wd (w:dj) (d:bQ) (x:ez) (l:aZ) (n i:Int) (h1:(d.2.2.2.2.1).length≤5) (h2:w.2.2.1.length≤1073741824) :
  aI fh (w.1,w.2.1,w.2.2.1,w.2.2.2.1,d.1,d.2.1,d.2.2.1,d.2.2.2.1,d.2.2.2.2.1,d.q.1,d.q.2.1,d.q.2.2.1,d.q.2.2.2.1,d.q.2.2.2.2.1,d.q.q.1,d.q.q.2.1,d.q.q.2.2.1,d.q.q.2.2.2.1,d.q.q.2.2.2.2.1,d.q.q.q.1,d.q.q.q.2.1,d.q.q.q.2.2.1,d.q.q.q.2.2.2.1,d.q.q.q.2.2.2.2.1,d.q.q.q.q.1,d.q.q.q.q.2.1,d.q.q.q.q.2.2.1,d.q.q.q.q.2.2.2.1,d.2.2.2.1,d.2.2.2.2.1,x.1,x.2.1,x.2.2.1,x.2.2.2.1,l,n,i,d.2.2.2.2.1,((List.length d.2.2.2.2.1:Nat):Int),(0:Int),())=some (.inl (w.1,w.2.1,(w.2.2.1++dm d.2.2.2.2.1 d.2.2.2.1 d.1 x),w.2.2.2.1,d.1,d.2.1,d.2.2.1,d.2.2.2.1,d.2.2.2.2.1,d.q.1,d.q.2.1,d.q.2.2.1,d.q.2.2.2.1,d.q.2.2.2.2.1,d.q.q.1,d.q.q.2.1,d.q.q.2.2.1,d.q.q.2.2.2.1,d.q.q.2.2.2.2.1,d.q.q.q.1,d.q.q.q.2.1,d.q.q.q.2.2.1,d.q.q.q.2.2.2.1,d.q.q.q.2.2.2.2.1,d.q.q.q.q.1,d.q.q.q.q.2.1,d.q.q.q.q.2.2.1,d.q.q.q.q.2.2.2.1,d.2.2.2.1,d.2.2.2.2.1,l,n,i,())):=by
 have l1:=bP (round:=fh) (e:=.inl (w.1,w.2.1,(w.2.2.1++dm d.2.2.2.2.1 d.2.2.2.1 d.1 x),w.2.2.2.1,d.1,d.2.1,d.2.2.1,d.2.2.2.1,d.2.2.2.2.1,d.q.1,d.q.2.1,d.q.2.2.1,d.q.2.2.2.1,d.q.2.2.2.2.1,d.q.q.1,d.q.q.2.1,d.q.q.2.2.1,d.q.q.2.2.2.1,d.q.q.2.2.2.2.1,d.q.q.q.1,d.q.q.q.2.1,d.q.q.q.2.2.1,d.q.q.q.2.2.2.1,d.q.q.q.2.2.2.2.1,d.q.q.q.q.1,d.q.q.q.q.2.1,d.q.q.q.q.2.2.1,d.q.q.q.q.2.2.2.1,d.2.2.2.1,d.2.2.2.2.1,l,n,i,())) (d.2.2.2.2.1).length (fun k=>(w.1,w.2.1,(w.2.2.1++dm ((d.2.2.2.2.1).take k) d.2.2.2.1 d.1 x),w.2.2.2.1,d.1,d.2.1,d.2.2.1,d.2.2.2.1,d.2.2.2.2.1,d.q.1,d.q.2.1,d.q.2.2.1,d.q.2.2.2.1,d.q.2.2.2.2.1,d.q.q.1,d.q.q.2.1,d.q.q.2.2.1,d.q.q.2.2.2.1,d.q.q.2.2.2.2.1,d.q.q.q.1,d.q.q.q.2.1,d.q.q.q.2.2.1,d.q.q.q.2.2.2.1,d.q.q.q.2.2.2.2.1,d.q.q.q.q.1,d.q.q.q.q.2.1,d.q.q.q.q.2.2.1,d.q.q.q.q.2.2.2.1,d.2.2.2.1,d.2.2.2.2.1,x.1,x.2.1,x.2.2.1,x.2.2.2.1,l,n,i,d.2.2.2.2.1,((List.length d.2.2.2.2.1:Nat):Int),((k:Nat):Int),())) (by
  simp only [fh,aX,aA,nI,aJ,cond_false,List.take_length]) (fun k hk=>by
  have hb:(dm ((d.2.2.2.2.1).take k) d.2.2.2.1 d.1 x).length≤5:=by
   unfold dm;rw [List.length_map];refine Nat.le_trans (List.length_filter_le _ _) ?_;rw [List.length_take];omega
  have e:=C9 d.2.2.2.2.1 d.2.2.2.1 d.1 x hk;simp only [dW,fh,aX,aA,nI,e,aD hk,au,cond_true,aC,List.getElem?_eq_getElem hk,Option.bind_some,aW (show ((w.2.2.1++dm ((d.2.2.2.2.1).take k) d.2.2.2.1 d.1 x).length+1)*176≤lim by rw [List.length_append];unfold lim;omega),aH (show k<4611686018427387904 by omega)]
  cases decide (((d.2.2.2.2.1)[k]).1=d.1)
  ·simp only [Bool.not_false,cond_true,List.append_assoc];rfl
  ·simp only [Bool.not_true,cond_false,List.append_nil])
 have l1:aI fh (w.1,w.2.1,(w.2.2.1++dm ((d.2.2.2.2.1).take 0) d.2.2.2.1 d.1 x),w.2.2.2.1,d.1,d.2.1,d.2.2.1,d.2.2.2.1,d.2.2.2.2.1,d.q.1,d.q.2.1,d.q.2.2.1,d.q.2.2.2.1,d.q.2.2.2.2.1,d.q.q.1,d.q.q.2.1,d.q.q.2.2.1,d.q.q.2.2.2.1,d.q.q.2.2.2.2.1,d.q.q.q.1,d.q.q.q.2.1,d.q.q.q.2.2.1,d.q.q.q.2.2.2.1,d.q.q.q.2.2.2.2.1,d.q.q.q.q.1,d.q.q.q.q.2.1,d.q.q.q.q.2.2.1,d.q.q.q.q.2.2.2.1,d.2.2.2.1,d.2.2.2.2.1,x.1,x.2.1,x.2.2.1,x.2.2.2.1,l,n,i,d.2.2.2.2.1,((List.length d.2.2.2.2.1:Nat):Int),(0:Int),())=_:=l1;rw [show dm ((d.2.2.2.2.1).take 0) d.2.2.2.1 d.1 x=[] from rfl,List.append_nil] at l1;exact l1
theorem Mo (w:dj) (d:bQ) (l:aZ) (h1:(d.2.2.2.2.1).length≤5) (h2:w.2.2.1.length≤1073741824-1048576) (h3:l.length≤1000):eN w.1 w.2.1 w.2.2.1 w.2.2.2.1 d.1 d.2.1 d.2.2.1 d.2.2.2.1 d.2.2.2.2.1 d.q.1 d.q.2.1 d.q.2.2.1 d.q.2.2.2.1 d.q.2.2.2.2.1 d.q.q.1 d.q.q.2.1 d.q.q.2.2.1 d.q.q.2.2.2.1 d.q.q.2.2.2.2.1 d.q.q.q.1 d.q.q.q.2.1 d.q.q.q.2.2.1 d.q.q.q.2.2.2.1 d.q.q.q.2.2.2.2.1 d.q.q.q.q.1 d.q.q.q.q.2.1 d.q.q.q.q.2.2.1 d.q.q.q.q.2.2.2.1 l=some (w.1,w.2.1,(w.2.2.1++bZ d.2.2.2.2.1 d.2.2.2.1 d.1 l),w.2.2.2.1,()):=by
 have l1:=bP (round:=fi) (e:=.inl (w.1,w.2.1,(w.2.2.1++bZ d.2.2.2.2.1 d.2.2.2.1 d.1 l),w.2.2.2.1,())) l.length (fun i=>(w.1,w.2.1,(w.2.2.1++bZ d.2.2.2.2.1 d.2.2.2.1 d.1 (l.take i)),w.2.2.2.1,d.1,d.2.1,d.2.2.1,d.2.2.2.1,d.2.2.2.2.1,d.q.1,d.q.2.1,d.q.2.2.1,d.q.2.2.2.1,d.q.2.2.2.2.1,d.q.q.1,d.q.q.2.1,d.q.q.2.2.1,d.q.q.2.2.2.1,d.q.q.2.2.2.2.1,d.q.q.q.1,d.q.q.q.2.1,d.q.q.q.2.2.1,d.q.q.q.2.2.2.1,d.q.q.q.2.2.2.2.1,d.q.q.q.q.1,d.q.q.q.q.2.1,d.q.q.q.q.2.2.1,d.q.q.q.q.2.2.2.1,d.2.2.2.1,d.2.2.2.2.1,l,((List.length l:Nat):Int),((i:Nat):Int),())) (by
  simp only [fi,aA,bz,nJ,bf,aF,dz,aJ,cond_false,List.take_length]) (fun i hi=>by
  have hb:=s6 d.2.2.2.2.1 d.2.2.2.1 d.1 h1 (l.take i);rw [List.length_take] at hb;have e:=Wd (dW w (w.2.2.1++bZ d.2.2.2.2.1 d.2.2.2.1 d.1 (l.take i))) d l[i] l ((List.length l:Nat):Int) ((i:Nat):Int) h1 (by show (w.2.2.1++bZ d.2.2.2.2.1 d.2.2.2.1 d.1 (l.take i)).length≤_;rw [List.length_append];omega);simp only [dW,G9 d.2.2.2.2.1 d.2.2.2.1 d.1 l hi,fi,aA,bz,nJ,bf,aF,dz,aD hi,au,cond_true,aC,List.getElem?_eq_getElem hi,Option.bind_some,aH (show i<4611686018427387904 by omega)] at e ⊢;rw [e];simp only [bU,Option.bind_some,aH (show i<4611686018427387904 by omega),List.append_assoc])
 have l1:aI fi (w.1,w.2.1,(w.2.2.1++bZ d.2.2.2.2.1 d.2.2.2.1 d.1 (l.take 0)),w.2.2.2.1,d.1,d.2.1,d.2.2.1,d.2.2.2.1,d.2.2.2.2.1,d.q.1,d.q.2.1,d.q.2.2.1,d.q.2.2.2.1,d.q.2.2.2.2.1,d.q.q.1,d.q.q.2.1,d.q.q.2.2.1,d.q.q.2.2.2.1,d.q.q.2.2.2.2.1,d.q.q.q.1,d.q.q.q.2.1,d.q.q.q.2.2.1,d.q.q.q.2.2.2.1,d.q.q.q.2.2.2.2.1,d.q.q.q.q.1,d.q.q.q.q.2.1,d.q.q.q.q.2.2.1,d.q.q.q.q.2.2.2.1,d.2.2.2.1,d.2.2.2.2.1,l,((List.length l:Nat):Int),(0:Int),())=_:=l1;rw [show bZ d.2.2.2.2.1 d.2.2.2.1 d.1 (l.take 0)=[] from rfl,List.append_nil] at l1;unfold eN;have l1:aI fi (w.1,w.2.1,w.2.2.1,w.2.2.2.1,d.1,d.2.1,d.2.2.1,d.2.2.2.1,d.2.2.2.2.1,d.q.1,d.q.2.1,d.q.2.2.1,d.q.2.2.2.1,d.q.2.2.2.2.1,d.q.q.1,d.q.q.2.1,d.q.q.2.2.1,d.q.q.2.2.2.1,d.q.q.2.2.2.2.1,d.q.q.q.1,d.q.q.q.2.1,d.q.q.q.2.2.1,d.q.q.q.2.2.2.1,d.q.q.q.2.2.2.2.1,d.q.q.q.q.1,d.q.q.q.q.2.1,d.q.q.q.q.2.2.1,d.q.q.q.q.2.2.2.1,d.2.2.2.1,d.2.2.2.2.1,l,((List.length l:Nat):Int),(0:Int),())=_:=l1;rw [l1];rfl
theorem Mp (w:dj) (d:bQ) (t:gN) {to_:Int} (hn:qT d.2.2.2.1 d.2.2.2.2.1 d.1=some (to_,())) (h2:w.2.2.1.length≤1073741824) (h3:t.q.1.length≤1048576):gp w.1 w.2.1 w.2.2.1 w.2.2.2.1 d.1 d.2.1 d.2.2.1 d.2.2.2.1 d.2.2.2.2.1 d.q.1 d.q.2.1 d.q.2.2.1 d.q.2.2.2.1 d.q.2.2.2.2.1 d.q.q.1 d.q.q.2.1 d.q.q.2.2.1 d.q.q.2.2.2.1 d.q.q.2.2.2.2.1 d.q.q.q.1 d.q.q.q.2.1 d.q.q.q.2.2.1 d.q.q.q.2.2.2.1 d.q.q.q.2.2.2.2.1 d.q.q.q.q.1 d.q.q.q.q.2.1 d.q.q.q.q.2.2.1 d.q.q.q.q.2.2.2.1 t.1 t.2.1 t.2.2.1 t.2.2.2.1 t.2.2.2.2.1 t.q.1=some (w.1,w.2.1,(w.2.2.1++[jt to_ d.2.2.2.1 t]),w.2.2.2.1,()):=by
 unfold gp;delta bF;simp only [hn,(kZ t.1 t.2.1 t.2.2.1 t.2.2.2.1 t.2.2.2.2.1 t.q.1 h3).2,Option.bind_some,aW (show (w.2.2.1.length+1)*176≤lim by unfold lim;omega),cond_true];rfl
theorem NW (w:dj) (d:bQ) (l:aZ) (h1:(d.2.2.2.2.1).length≤1048576) (h2:w.2.2.2.1.length≤1048576) (h3:l.length≤1000) :
  aI dI (w.1,w.2.1,w.2.2.1,w.2.2.2.1,d.1,d.2.1,d.2.2.1,d.2.2.2.1,d.2.2.2.2.1,d.q.1,d.q.2.1,d.q.2.2.1,d.q.2.2.2.1,d.q.2.2.2.2.1,d.q.q.1,d.q.q.2.1,d.q.q.2.2.1,d.q.q.2.2.2.1,d.q.q.2.2.2.2.1,d.q.q.q.1,d.q.q.q.2.1,d.q.q.q.2.2.1,d.q.q.q.2.2.2.1,d.q.q.q.2.2.2.2.1,d.q.q.q.q.1,d.q.q.q.q.2.1,d.q.q.q.q.2.2.1,d.q.q.q.q.2.2.2.1,l,((List.length l:Nat):Int),(0:Int),())=some (.inl (w.1,w.2.1,w.2.2.1,(w.2.2.2.1++eA d.2.2.2.1 d.2.2.2.2.1 l),())):=by
 have l1:=bP (round:=dI) (e:=.inl (w.1,w.2.1,w.2.2.1,(w.2.2.2.1++eA d.2.2.2.1 d.2.2.2.2.1 l),())) l.length (fun i=>(w.1,w.2.1,w.2.2.1,(w.2.2.2.1++eA d.2.2.2.1 d.2.2.2.2.1 (l.take i)),d.1,d.2.1,d.2.2.1,d.2.2.2.1,d.2.2.2.2.1,d.q.1,d.q.2.1,d.q.2.2.1,d.q.2.2.2.1,d.q.2.2.2.2.1,d.q.q.1,d.q.q.2.1,d.q.q.2.2.1,d.q.q.2.2.2.1,d.q.q.2.2.2.2.1,d.q.q.q.1,d.q.q.q.2.1,d.q.q.q.2.2.1,d.q.q.q.2.2.2.1,d.q.q.q.2.2.2.2.1,d.q.q.q.q.1,d.q.q.q.q.2.1,d.q.q.q.q.2.2.1,d.q.q.q.q.2.2.2.1,l,((List.length l:Nat):Int),((i:Nat):Int),())) (by
  simp only [dI,aA,aP,pP,aF,aJ,cond_false,List.take_length]) (fun i hi=>by
  have hb:(eA d.2.2.2.1 d.2.2.2.2.1 (l.take i)).length≤1000:=by rw [nD,List.length_take];omega
  have e:eA d.2.2.2.1 d.2.2.2.2.1 (l.take (i+1))=eA d.2.2.2.1 d.2.2.2.2.1 (l.take i)++[(1,d.2.2.2.1,d.2.2.2.2.1,(l[i]).1,(l[i]).2.1,(l[i]).2.2.1,(l[i]).2.2.2.1,[],())]:=by
   unfold eA;rw [List.take_succ_eq_append_getElem hi,List.map_append];rfl
  simp only [xi,e,dI,aA,aP,pP,aF,aD hi,au,cond_true,aC,List.getElem?_eq_getElem hi,Option.bind_some,lB d.2.2.2.1 d.2.2.2.2.1 h1,aW (show ((w.2.2.2.1++eA d.2.2.2.1 d.2.2.2.2.1 (l.take i)).length+1)*104≤lim by rw [List.length_append];unfold lim;omega),aH (show i<4611686018427387904 by omega),List.append_assoc])
 have l1:aI dI (w.1,w.2.1,w.2.2.1,(w.2.2.2.1++eA d.2.2.2.1 d.2.2.2.2.1 (l.take 0)),d.1,d.2.1,d.2.2.1,d.2.2.2.1,d.2.2.2.2.1,d.q.1,d.q.2.1,d.q.2.2.1,d.q.2.2.2.1,d.q.2.2.2.2.1,d.q.q.1,d.q.q.2.1,d.q.q.2.2.1,d.q.q.2.2.2.1,d.q.q.2.2.2.2.1,d.q.q.q.1,d.q.q.q.2.1,d.q.q.q.2.2.1,d.q.q.q.2.2.2.1,d.q.q.q.2.2.2.2.1,d.q.q.q.q.1,d.q.q.q.q.2.1,d.q.q.q.q.2.2.1,d.q.q.q.q.2.2.2.1,l,((List.length l:Nat):Int),(0:Int),())=_:=l1;rw [show eA d.2.2.2.1 d.2.2.2.2.1 (l.take 0)=[] from rfl,List.append_nil] at l1;exact l1
theorem ZT {n:Nat} {w:dj} (q:gY n w) (hn:n≤99) {k:Nat} {t:gN} {a:Int} {w':dj} (hs:NP w k t a w'):dQ w.1 w.2.1 w.2.2.1 w.2.2.2.1 ((k+1:Nat):Int) t.1 t.2.1 t.2.2.1 t.2.2.2.1 t.2.2.2.2.1 t.q.1=some (decide (a=0),w'.1,w'.2.1,w'.2.2.1,w'.2.2.2.1,()):=by
 have hf:=q.E8;have h5:=q.ya;have aob:=q.num
 cases hs with
 |no hk hI=>
  have hI:eW (w.2.1[k]).1 (w.2.1[k]).2.1 (w.2.1[k]).2.2.1 (w.2.1[k]).2.2.2.1 (w.2.1[k]).2.2.2.2.1 (w.2.1[k]).q.1 (w.2.1[k]).q.2.1 (w.2.1[k]).q.2.2.1 (w.2.1[k]).q.2.2.2.1 (w.2.1[k]).q.2.2.2.2.1 (w.2.1[k]).q.q.1 (w.2.1[k]).q.q.2.1 (w.2.1[k]).q.q.2.2.1 (w.2.1[k]).q.q.2.2.2.1 (w.2.1[k]).q.q.2.2.2.2.1 (w.2.1[k]).q.q.q.1 (w.2.1[k]).q.q.q.2.1 (w.2.1[k]).q.q.q.2.2.1 (w.2.1[k]).q.q.q.2.2.2.1 (w.2.1[k]).q.q.q.2.2.2.2.1 (w.2.1[k]).q.q.q.q.1 (w.2.1[k]).q.q.q.q.2.1 (w.2.1[k]).q.q.q.q.2.2.1 (w.2.1[k]).q.q.q.q.2.2.2.1 t.1 t.2.1 t.2.2.1 t.2.2.2.1 t.2.2.2.2.1 t.q.1=_:=hI;unfold dQ;delta aA ax aP bf aF;simp only [ee (show k<1000 by omega),au,cond_true,aC,cw hk,List.getElem?_eq_getElem hk,Option.bind_some];rw [hI];rfl
 |yes hk m said j nx to_ hi hb hT H ht hI=>
  obtain ⟨hd,mS⟩:=q.pV k hk;have hW:=hd.small (by omega);obtain ⟨m1,m2,m3,m4⟩:=jZ hW hi;obtain ⟨v,hq,eR,_⟩:=Ch (m:=m) H.nq;have hm5:(az w.2.1[k]).2.2.1.length≤5:=m1.ring.2.1.2;have hgl:(qX t (az w.2.1[k]).2.2.2.1).length≤(az w.2.1[k]).2.2.2.1.length:=List.length_filter_le _ _;have h60:=(di _ m1.items).1;have hlen:said.length=(qX t (az w.2.1[k]).2.2.2.1).length+j:=by rw [H.said,List.length_append,py]
  have hj:=H.E8.1;have hdr:said.drop (qX t (az w.2.1[k]).2.2.2.1).length=de t.2.2.1 (az w.2.1[k]).1 (az w.2.1[k]).2.2.2.2.1 (az w.2.1[k]).q.1 j:=by rw [H.said,List.drop_left'];rfl
  have hev:=Mn H hT (az w.2.1[k]).2.1 (az w.2.1[k]).2.2.1;have hnl:(de t.2.2.1 (az w.2.1[k]).1 (az w.2.1[k]).2.2.2.2.1 (az w.2.1[k]).q.1 j).length=j:=py _ _ _ _ _;obtain ⟨r,hr⟩:∃r,r=ed (bE w.2.1[k] m):=⟨_,rfl⟩;have er:r=lJ (bE (bE w.2.1[k] m) (vR m (m.q.2.2.2.2.1+((v:Nat):Int)))) (iJ m.2.2.2.1 m.q.2.2.2.2.1 v):=by
   rw [hr];show lJ (bE (bE w.2.1[k] m) (cB m).1) (cB m).2=_;rw [eR]
  have r1:r.1=((k+1:Nat):Int):=by rw [er];exact mS
  have r3:r.2.2.2.1=(az w.2.1[k]).2.1:=by rw [er];exact H.id.2.1
  have r4:r.2.2.2.2.1=(az w.2.1[k]).2.2.1:=by rw [er];exact H.id.2.2
  rw [←hr] at hI ⊢;have e1:=Mo (pz w k r) r said (by rw [r4];exact hm5) (by show w.2.2.1.length≤_;omega) (by omega);rw [show bZ r.2.2.2.2.1 r.2.2.2.1 r.1 said=bZ (az w.2.1[k]).2.2.1 (az w.2.1[k]).2.1 ((k+1:Nat):Int) said by rw [r1,r3,r4]] at e1;have lf:=acP (by omega) ht;have Ym:=s6 (az w.2.1[k]).2.2.1 (az w.2.1[k]).2.1 ((k+1:Nat):Int) hm5 said;have e2:=Mp (dW (pz w k r) (w.2.2.1++bZ (az w.2.1[k]).2.2.1 (az w.2.1[k]).2.1 ((k+1:Nat):Int) said)) r nx (to_:=to_) (by rw [r1,r3,r4];exact lf) (by show (w.2.2.1++bZ _ _ _ _).length≤_;rw [List.length_append];omega) (Nat.le_trans H.tq.q.1 (by decide));have e3:=NW (dW (dW (pz w k r) (w.2.2.1++bZ (az w.2.1[k]).2.2.1 (az w.2.1[k]).2.1 ((k+1:Nat):Int) said)) ((w.2.2.1++bZ (az w.2.1[k]).2.2.1 (az w.2.1[k]).2.1 ((k+1:Nat):Int) said)++[jt to_ (az w.2.1[k]).2.1 nx])) r (de t.2.2.1 (az w.2.1[k]).1 (az w.2.1[k]).2.2.2.2.1 (az w.2.1[k]).q.1 j) (by rw [r4];omega) (by show w.2.2.2.1.length≤_;omega) (by omega);rw [show jt to_ r.2.2.2.1 nx=jt to_ (az w.2.1[k]).2.1 nx by rw [r3]] at e2;rw [show eA r.2.2.2.1 r.2.2.2.2.1 (de t.2.2.1 (az w.2.1[k]).1 (az w.2.1[k]).2.2.2.2.1 (az w.2.1[k]).q.1 j)=jI (az w.2.1[k]).2.1 (az w.2.1[k]).2.2.1 t said by rw [r3,r4,←hev]] at e3;have SZ:IntKind.i64.wrap (((List.length said:Nat):Int)-((j:Nat):Int))=(((qX t (az w.2.1[k]).2.2.2.1).length:Nat):Int):=by
   rw [fj (by omega) (by omega)];omega
  unfold dQ;delta aA ax aP bf aF;simp only [ee (show k<1000 by omega),au,cond_true,aC,cw hk,List.getElem?_eq_getElem hk,Option.bind_some];rw [hI];simp only [Option.bind_some,Bool.not_true,cond_false];have e1:eN w.1 (w.2.1.set k r) w.2.2.1 w.2.2.2.1 r.1 r.2.1 r.2.2.1 r.2.2.2.1 r.2.2.2.2.1 r.q.1 r.q.2.1 r.q.2.2.1 r.q.2.2.2.1 r.q.2.2.2.2.1 r.q.q.1 r.q.q.2.1 r.q.q.2.2.1 r.q.q.2.2.2.1 r.q.q.2.2.2.2.1 r.q.q.q.1 r.q.q.q.2.1 r.q.q.q.2.2.1 r.q.q.q.2.2.2.1 r.q.q.q.2.2.2.2.1 r.q.q.q.q.1 r.q.q.q.q.2.1 r.q.q.q.q.2.2.1 r.q.q.q.q.2.2.2.1 said=_:=e1;rw [show (r.1,r.2.1,r.2.2.1,r.2.2.2.1,r.2.2.2.2.1,r.q.1,r.q.2.1,r.q.2.2.1,r.q.2.2.2.1,r.q.2.2.2.2.1,r.q.q.1,r.q.q.2.1,r.q.q.2.2.1,r.q.q.2.2.2.1,r.q.q.2.2.2.2.1,r.q.q.q.1,r.q.q.q.2.1,r.q.q.q.2.2.1,r.q.q.q.2.2.2.1,r.q.q.q.2.2.2.2.1,r.q.q.q.q.1,r.q.q.q.q.2.1,r.q.q.q.q.2.2.1,r.q.q.q.q.2.2.2.1,())=r from rfl,e1];simp only [Option.bind_some];have e2:gp w.1 (w.2.1.set k r) (w.2.2.1++bZ (az w.2.1[k]).2.2.1 (az w.2.1[k]).2.1 ((k+1:Nat):Int) said) w.2.2.2.1 r.1 r.2.1 r.2.2.1 r.2.2.2.1 r.2.2.2.2.1 r.q.1 r.q.2.1 r.q.2.2.1 r.q.2.2.2.1 r.q.2.2.2.2.1 r.q.q.1 r.q.q.2.1 r.q.q.2.2.1 r.q.q.2.2.2.1 r.q.q.2.2.2.2.1 r.q.q.q.1 r.q.q.q.2.1 r.q.q.q.2.2.1 r.q.q.q.2.2.2.1 r.q.q.q.2.2.2.2.1 r.q.q.q.q.1 r.q.q.q.q.2.1 r.q.q.q.q.2.2.1 r.q.q.q.q.2.2.2.1 nx.1 nx.2.1 nx.2.2.1 nx.2.2.2.1 nx.2.2.2.2.1 nx.q.1=_:=e2;show Option.bind (gp w.1 (w.2.1.set k r) (w.2.2.1++bZ (az w.2.1[k]).2.2.1 (az w.2.1[k]).2.1 ((k+1:Nat):Int) said) w.2.2.2.1 r.1 r.2.1 r.2.2.1 r.2.2.2.1 r.2.2.2.2.1 r.q.1 r.q.2.1 r.q.2.2.1 r.q.2.2.2.1 r.q.2.2.2.2.1 r.q.q.1 r.q.q.2.1 r.q.q.2.2.1 r.q.q.2.2.2.1 r.q.q.2.2.2.2.1 r.q.q.q.1 r.q.q.q.2.1 r.q.q.q.2.2.1 r.q.q.q.2.2.2.1 r.q.q.q.2.2.2.2.1 r.q.q.q.q.1 r.q.q.q.q.2.1 r.q.q.q.q.2.2.1 r.q.q.q.q.2.2.2.1 nx.1 nx.2.1 nx.2.2.1 nx.2.2.2.1 nx.2.2.2.2.1 nx.q.1) _=_;rw [e2];simp only [Option.bind_some,SZ,au,cond_true,aC,aq (show (((qX t (az w.2.1[k]).2.2.2.1).length:Nat):Int)≤((List.length said:Nat):Int) by omega),hdr];have e3:aI dI (w.1,w.2.1.set k r,(w.2.2.1++bZ (az w.2.1[k]).2.2.1 (az w.2.1[k]).2.1 ((k+1:Nat):Int) said)++[jt to_ (az w.2.1[k]).2.1 nx],w.2.2.2.1,r.1,r.2.1,r.2.2.1,r.2.2.2.1,r.2.2.2.2.1,r.q.1,r.q.2.1,r.q.2.2.1,r.q.2.2.2.1,r.q.2.2.2.2.1,r.q.q.1,r.q.q.2.1,r.q.q.2.2.1,r.q.q.2.2.2.1,r.q.q.2.2.2.2.1,r.q.q.q.1,r.q.q.q.2.1,r.q.q.q.2.2.1,r.q.q.q.2.2.2.1,r.q.q.q.2.2.2.2.1,r.q.q.q.q.1,r.q.q.q.q.2.1,r.q.q.q.q.2.2.1,r.q.q.q.q.2.2.2.1,de t.2.2.1 (az w.2.1[k]).1 (az w.2.1[k]).2.2.2.2.1 (az w.2.1[k]).q.1 j,((List.length (de t.2.2.1 (az w.2.1[k]).1 (az w.2.1[k]).2.2.2.2.1 (az w.2.1[k]).q.1 j):Nat):Int),(0:Int),())=_:=e3;show bU (aI dI (w.1,w.2.1.set k r,(w.2.2.1++bZ (az w.2.1[k]).2.2.1 (az w.2.1[k]).2.1 ((k+1:Nat):Int) said)++[jt to_ (az w.2.1[k]).2.1 nx],w.2.2.2.1,r.1,r.2.1,r.2.2.1,r.2.2.2.1,r.2.2.2.2.1,r.q.1,r.q.2.1,r.q.2.2.1,r.q.2.2.2.1,r.q.2.2.2.2.1,r.q.q.1,r.q.q.2.1,r.q.q.2.2.1,r.q.q.2.2.2.1,r.q.q.2.2.2.2.1,r.q.q.q.1,r.q.q.q.2.1,r.q.q.q.2.2.1,r.q.q.q.2.2.2.1,r.q.q.q.2.2.2.2.1,r.q.q.q.q.1,r.q.q.q.q.2.1,r.q.q.q.q.2.2.1,r.q.q.q.q.2.2.2.1,de t.2.2.1 (az w.2.1[k]).1 (az w.2.1[k]).2.2.2.2.1 (az w.2.1[k]).q.1 j,((List.length (de t.2.2.1 (az w.2.1[k]).1 (az w.2.1[k]).2.2.2.2.1 (az w.2.1[k]).q.1 j):Nat):Int),(0:Int),())) _ _=_;rw [e3];rfl
end Go.TM
set_option linter.unusedSimpArgs false
set_option linter.unusedVariables false
namespace Go.TM
open Go
theorem ZU (m:ia) (h:m.2.2.2.1.length≤1048576):p9 m.1 m.2.1 m.2.2.1 m.2.2.2.1 m.2.2.2.2.1 m.q.1 m.q.2.1 m.q.2.2.1 m.q.2.2.2.1 m.q.2.2.2.2.1 m.q.q.1 m.q.q.2.1 m.q.q.2.2.1 m.q.q.2.2.2.1 m.q.q.2.2.2.2.1 m.q.q.q.1=some (m.2.2.2.1.filter (fun x=>decide (x.2.1=m.1)),()):=by
 have l1:=bP (round:=jT) (e:=.inl (m.2.2.2.1.filter (fun x=>decide (x.2.1=m.1)),())) m.2.2.2.1.length (fun i=>(m.1,m.2.1,m.2.2.1,m.2.2.2.1,m.2.2.2.2.1,m.q.1,m.q.2.1,m.q.2.2.1,m.q.2.2.2.1,m.q.2.2.2.2.1,m.q.q.1,m.q.q.2.1,m.q.q.2.2.1,m.q.q.2.2.2.1,m.q.q.2.2.2.2.1,m.q.q.q.1,(m.2.2.2.1.take i).filter (fun x=>decide (x.2.1=m.1)),m.2.2.2.1,((List.length m.2.2.2.1:Nat):Int),((i:Nat):Int),())) (by
  simp only [jT,aX,ax,sP,aF,aJ,cond_false,List.take_length]) (fun i hi=>by
  have hb:Nat.ble ((((m.2.2.2.1.take i).filter (fun x=>decide (x.2.1=m.1))).length+1)*40) lim=true:=aW (by
   have:=List.length_filter_le (fun x:ez=>decide (x.2.1=m.1)) (m.2.2.2.1.take i);rw [List.length_take] at this;unfold lim;omega)
  rw [List.take_succ_eq_append_getElem hi,List.filter_append,List.filter_cons];simp only [jT,aX,ax,sP,aF,aD hi,au,cond_true,aC,List.getElem?_eq_getElem hi,Option.bind_some,aH (show i<4611686018427387904 by omega),hb]
  by_cases e:(m.2.2.2.1[i]).2.1=m.1
  ·rw [aq e];rfl
  ·rw [ak e];simp only [cond_false];rw [if_neg (by decide)];simp)
 have l1:aI jT (m.1,m.2.1,m.2.2.1,m.2.2.2.1,m.2.2.2.2.1,m.q.1,m.q.2.1,m.q.2.2.1,m.q.2.2.2.1,m.q.2.2.2.2.1,m.q.q.1,m.q.q.2.1,m.q.q.2.2.1,m.q.q.2.2.2.1,m.q.q.2.2.2.2.1,m.q.q.q.1,[],m.2.2.2.1,((List.length m.2.2.2.1:Nat):Int),(0:Int),())=_:=l1;unfold p9;rw [l1];rfl
theorem ZV (d:bQ):ej d.1 d.2.1 d.2.2.1 d.2.2.2.1 d.2.2.2.2.1 d.q.1 d.q.2.1 d.q.2.2.1 d.q.2.2.2.1 d.q.2.2.2.2.1 d.q.q.1 d.q.q.2.1 d.q.q.2.2.1 d.q.q.2.2.2.1 d.q.q.2.2.2.2.1 d.q.q.q.1 d.q.q.q.2.1 d.q.q.q.2.2.1 d.q.q.q.2.2.2.1 d.q.q.q.2.2.2.2.1 d.q.q.q.q.1 d.q.q.q.q.2.1 d.q.q.q.q.2.2.1 d.q.q.q.q.2.2.2.1=some ((!decide (d.2.2.2.1=0)&&decide (d.q.q.q.q.1=0)),d):=by
 unfold ej
 cases decide (d.2.2.2.1=0)<;>rfl
theorem aiI {n:Nat} {w:dj} (q:gY n w) (hn:n≤98) {k:Nat} {a:Int} {w':dj} (hs:KT w k a w'):mg w.1 w.2.1 w.2.2.1 w.2.2.2.1 ((k+1:Nat):Int)=some (decide (a=0),w'.1,w'.2.1,w'.2.2.1,w'.2.2.2.1,()):=by
 have hf:=q.E8;have h5:=q.ya;have hk:k<w.2.1.length:=by cases hs<;>assumption
 obtain ⟨hd,mS⟩:=q.pV k hk;have hW:=hd.small (by omega);have hB:kj w.2.1[k]=true:=(pR _ hW).2.2.2 hd.q;have hR:=Aw w.2.1[k] hW;rw [hB,Bool.and_true] at hR;have e1:=ZV w.2.1[k];rw [hR] at e1;have e2:db (w.2.1[k]).q.q.2.2.1 (w.2.1[k]).q.q.2.2.2.1 (w.2.1[k]).q.q.2.2.2.2.1 (w.2.1[k]).q.q.q.1 (w.2.1[k]).q.q.q.2.1 (w.2.1[k]).q.q.q.2.2.1=some (sb ((w.2.1[k]).q.q.2.2.1,(w.2.1[k]).q.q.2.2.2.1,(w.2.1[k]).q.q.2.2.2.2.1,(w.2.1[k]).q.q.q.1,(w.2.1[k]).q.q.q.2.1,(w.2.1[k]).q.q.q.2.2.1,()),()):=(qd ((w.2.1[k]).q.q.2.2.1,(w.2.1[k]).q.q.2.2.2.1,(w.2.1[k]).q.q.2.2.2.2.1,(w.2.1[k]).q.q.q.1,(w.2.1[k]).q.q.q.2.1,(w.2.1[k]).q.q.q.2.2.1,())).2.1;unfold mg;delta aX aA ax aP;simp only [ee (show k<1000 by omega),au,cond_true,aC,cw hk,List.getElem?_eq_getElem hk,Option.bind_some];rw [e1]
 cases hs with
 |no _ h=>
  rcases h with hi | hb
  ·rw [hi];rfl
  ·cases hi:eO w.2.1[k]
   ·rfl
   ·simp only [Option.bind_some,Bool.not_true,cond_false];rw [e2,hb];rfl
 |yes _ hi hb to_ ht=>
  obtain ⟨m1,m2,m3,m4⟩:=jZ hW hi;have hm5:(az w.2.1[k]).2.2.1.length≤5:=m1.ring.2.1.2;have Wt:(az w.2.1[k]).2.2.2.1.length≤60:=(di _ m1.items).1;have hT:Gf ((w.2.1[k]).q.q.2.2.1,(w.2.1[k]).q.q.2.2.2.1,(w.2.1[k]).q.q.2.2.2.2.1,(w.2.1[k]).q.q.q.1,(w.2.1[k]).q.q.q.2.1,(w.2.1[k]).q.q.q.2.2.1,()):=by
   rcases m1.last with g | g
   ·have:=(qd ((w.2.1[k]).q.q.2.2.1,(w.2.1[k]).q.q.2.2.2.1,(w.2.1[k]).q.q.2.2.2.2.1,(w.2.1[k]).q.q.q.1,(w.2.1[k]).q.q.q.2.1,(w.2.1[k]).q.q.q.2.2.1,())).2.2.2 g;rw [hb] at this;cases this
   ·exact g
  rw [hi];simp only [Option.bind_some,Bool.not_true,cond_false];rw [e2,hb];simp only [Option.bind_some,cond_false];have lf:=acP (by omega) ht;have p1:=Mp w w.2.1[k] ((w.2.1[k]).q.q.2.2.1,(w.2.1[k]).q.q.2.2.2.1,(w.2.1[k]).q.q.2.2.2.2.1,(w.2.1[k]).q.q.q.1,(w.2.1[k]).q.q.q.2.1,(w.2.1[k]).q.q.q.2.2.1,()) (to_:=to_) (by rw [mS];exact lf) (by omega) (Nat.le_trans hT.q.1 (by decide));have p1:gp w.1 w.2.1 w.2.2.1 w.2.2.2.1 (w.2.1[k]).1 (w.2.1[k]).2.1 (w.2.1[k]).2.2.1 (w.2.1[k]).2.2.2.1 (w.2.1[k]).2.2.2.2.1 (w.2.1[k]).q.1 (w.2.1[k]).q.2.1 (w.2.1[k]).q.2.2.1 (w.2.1[k]).q.2.2.2.1 (w.2.1[k]).q.2.2.2.2.1 (w.2.1[k]).q.q.1 (w.2.1[k]).q.q.2.1 (w.2.1[k]).q.q.2.2.1 (w.2.1[k]).q.q.2.2.2.1 (w.2.1[k]).q.q.2.2.2.2.1 (w.2.1[k]).q.q.q.1 (w.2.1[k]).q.q.q.2.1 (w.2.1[k]).q.q.q.2.2.1 (w.2.1[k]).q.q.q.2.2.2.1 (w.2.1[k]).q.q.q.2.2.2.2.1 (w.2.1[k]).q.q.q.q.1 (w.2.1[k]).q.q.q.q.2.1 (w.2.1[k]).q.q.q.q.2.2.1 (w.2.1[k]).q.q.q.q.2.2.2.1 (w.2.1[k]).q.q.2.2.1 (w.2.1[k]).q.q.2.2.2.1 (w.2.1[k]).q.q.2.2.2.2.1 (w.2.1[k]).q.q.q.1 (w.2.1[k]).q.q.q.2.1 (w.2.1[k]).q.q.q.2.2.1=_:=p1;rw [p1];simp only [Option.bind_some];have o1:=ZU (az w.2.1[k]) (by omega);have m2:(az w.2.1[k]).1=(w.2.1[k]).1:=m2;rw [show ((az w.2.1[k]).2.2.2.1.filter fun x=>decide (x.2.1=(az w.2.1[k]).1))=AA w.2.1[k] ((k+1:Nat):Int) (az w.2.1[k]).2.2.2.1 by unfold AA;rw [m2,mS]] at o1;have o1:p9 (w.2.1[k]).2.2.1 (w.2.1[k]).2.2.2.1 (w.2.1[k]).2.2.2.2.1 (w.2.1[k]).q.1 (w.2.1[k]).q.2.1 (w.2.1[k]).q.2.2.1 (w.2.1[k]).q.2.2.2.1 (w.2.1[k]).q.2.2.2.2.1 (w.2.1[k]).q.q.1 (w.2.1[k]).q.q.2.1 (w.2.1[k]).q.q.2.2.1 (w.2.1[k]).q.q.2.2.2.1 (w.2.1[k]).q.q.2.2.2.2.1 (w.2.1[k]).q.q.q.1 (w.2.1[k]).q.q.q.2.1 (w.2.1[k]).q.q.q.2.2.1=_:=o1;rw [o1];simp only [Option.bind_some];have Qd:=J3 w.2.1[k] ((k+1:Nat):Int) (az w.2.1[k]).2.2.2.1;have t1:=Mo (dW w (w.2.2.1++[jt to_ (az w.2.1[k]).2.1 ((w.2.1[k]).q.q.2.2.1,(w.2.1[k]).q.q.2.2.2.1,(w.2.1[k]).q.q.2.2.2.2.1,(w.2.1[k]).q.q.q.1,(w.2.1[k]).q.q.q.2.1,(w.2.1[k]).q.q.q.2.2.1,())])) w.2.1[k] (AA w.2.1[k] ((k+1:Nat):Int) (az w.2.1[k]).2.2.2.1) hm5 (by show (w.2.2.1++[_]).length≤_;rw [List.length_append,List.length_singleton];omega) (by omega);rw [show bZ (w.2.1[k]).2.2.2.2.1 (w.2.1[k]).2.2.2.1 (w.2.1[k]).1 (AA w.2.1[k] ((k+1:Nat):Int) (az w.2.1[k]).2.2.2.1)=bZ (az w.2.1[k]).2.2.1 (az w.2.1[k]).2.1 ((k+1:Nat):Int) (AA w.2.1[k] ((k+1:Nat):Int) (az w.2.1[k]).2.2.2.1) by rw [mS]] at t1;have t1:eN w.1 w.2.1 (w.2.2.1++[jt to_ (w.2.1[k]).2.2.2.1 ((w.2.1[k]).q.q.2.2.1,(w.2.1[k]).q.q.2.2.2.1,(w.2.1[k]).q.q.2.2.2.2.1,(w.2.1[k]).q.q.q.1,(w.2.1[k]).q.q.q.2.1,(w.2.1[k]).q.q.q.2.2.1,())]) w.2.2.2.1 (w.2.1[k]).1 (w.2.1[k]).2.1 (w.2.1[k]).2.2.1 (w.2.1[k]).2.2.2.1 (w.2.1[k]).2.2.2.2.1 (w.2.1[k]).q.1 (w.2.1[k]).q.2.1 (w.2.1[k]).q.2.2.1 (w.2.1[k]).q.2.2.2.1 (w.2.1[k]).q.2.2.2.2.1 (w.2.1[k]).q.q.1 (w.2.1[k]).q.q.2.1 (w.2.1[k]).q.q.2.2.1 (w.2.1[k]).q.q.2.2.2.1 (w.2.1[k]).q.q.2.2.2.2.1 (w.2.1[k]).q.q.q.1 (w.2.1[k]).q.q.q.2.1 (w.2.1[k]).q.q.q.2.2.1 (w.2.1[k]).q.q.q.2.2.2.1 (w.2.1[k]).q.q.q.2.2.2.2.1 (w.2.1[k]).q.q.q.q.1 (w.2.1[k]).q.q.q.q.2.1 (w.2.1[k]).q.q.q.q.2.2.1 (w.2.1[k]).q.q.q.q.2.2.2.1 (AA w.2.1[k] ((k+1:Nat):Int) (az w.2.1[k]).2.2.2.1)=_:=t1;show Option.bind (eN w.1 w.2.1 (w.2.2.1++[jt to_ (w.2.1[k]).2.2.2.1 ((w.2.1[k]).q.q.2.2.1,(w.2.1[k]).q.q.2.2.2.1,(w.2.1[k]).q.q.2.2.2.2.1,(w.2.1[k]).q.q.q.1,(w.2.1[k]).q.q.q.2.1,(w.2.1[k]).q.q.q.2.2.1,())]) w.2.2.2.1 (w.2.1[k]).1 (w.2.1[k]).2.1 (w.2.1[k]).2.2.1 (w.2.1[k]).2.2.2.1 (w.2.1[k]).2.2.2.2.1 (w.2.1[k]).q.1 (w.2.1[k]).q.2.1 (w.2.1[k]).q.2.2.1 (w.2.1[k]).q.2.2.2.1 (w.2.1[k]).q.2.2.2.2.1 (w.2.1[k]).q.q.1 (w.2.1[k]).q.q.2.1 (w.2.1[k]).q.q.2.2.1 (w.2.1[k]).q.q.2.2.2.1 (w.2.1[k]).q.q.2.2.2.2.1 (w.2.1[k]).q.q.q.1 (w.2.1[k]).q.q.q.2.1 (w.2.1[k]).q.q.q.2.2.1 (w.2.1[k]).q.q.q.2.2.2.1 (w.2.1[k]).q.q.q.2.2.2.2.1 (w.2.1[k]).q.q.q.q.1 (w.2.1[k]).q.q.q.q.2.1 (w.2.1[k]).q.q.q.q.2.2.1 (w.2.1[k]).q.q.q.q.2.2.2.1 (AA w.2.1[k] ((k+1:Nat):Int) (az w.2.1[k]).2.2.2.1)) _=_;rw [t1];rfl
instance (d:bQ) (r:Int×cG×Unit):Decidable (yK d r):=by unfold yK;infer_instance
theorem aol (d:bQ) (r:Int×cG×Unit) (h:r.2.1.length≤1048576):nV r.1 r.2.1 [d] [(d.1,())]=some (decide (yK d r),()):=by
 unfold nV;simp only [List.getElem?_cons_zero,Option.bind_some,Hy r.2.1 d.1 h]
 by_cases h1:r.1≤d.q.q.q.2.2.2.1
 ·rw [ak (show ¬d.q.q.q.2.2.2.1<r.1 by omega),ak (show ¬yK d r from fun g=>g.1 h1)];rfl
 ·rw [aq (show d.q.q.q.2.2.2.1<r.1 by omega)]
  by_cases h2:(d.1,())∈r.2.1
  ·rw [aq h2,aq (show yK d r from ⟨h1,h2⟩)];rfl
  ·rw [ak h2,ak (show ¬yK d r from fun g=>h2 g.2)];rfl
theorem We (rs:od) (d:bQ) (hl:rs.length≤1000) (hm:∀r∈rs,r.2.1.length≤1048576) (h:∀j (hj:j<rs.length),¬yK d rs[j]):cJ rs [([d],[(d.1,())],())]=some (-1,()):=by
 have l1:=bP (round:=cn) (e:=.inl ()) rs.length (fun i=>(rs,[([d],[(d.1,())],())],((List.length rs:Nat):Int),((i:Nat):Int),())) (by
  simp only [cn,ax,fV,aJ,cond_false]) (fun i hi=>by
  simp only [cn,ax,fV,aD hi,au,cond_true,aC,List.getElem?_eq_getElem hi,List.getElem?_cons_zero,Option.bind_some,aol d rs[i] (hm _ (List.getElem_mem hi)),ak (h i hi),cond_false,aH (show i<4611686018427387904 by omega)])
 have l1:aI cn (rs,[([d],[(d.1,())],())],((List.length rs:Nat):Int),(0:Int),())=_:=l1;unfold cJ;rw [l1];rfl
theorem TF (rs:od) (d:bQ) (hl:rs.length≤1000) (hm:∀r∈rs,r.2.1.length≤1048576) {k:Nat} (hk:k<rs.length) (hf:yK d rs[k]) (h:∀j (hj:j<rs.length),j<k→¬yK d rs[j]):cJ rs [([d],[(d.1,())],())]=some (((k:Nat):Int),()):=by
 obtain ⟨e,he,rfl⟩:=dU (round:=cn) (x:=(rs,[([d],[(d.1,())],())],((List.length rs:Nat):Int),((0:Nat):Int),())) rs.length
  (fun i x=>x=(rs,[([d],[(d.1,())],())],((List.length rs:Nat):Int),((i:Nat):Int),())∧i≤k) (fun e=>e=.inr (((k:Nat):Int),())) (by
   rintro x ⟨_,g⟩;omega) (by
   rintro i x hi ⟨rfl,g⟩
   simp only [cn,ax,fV,aD hi,au,cond_true,aC,List.getElem?_eq_getElem hi,List.getElem?_cons_zero,Option.bind_some,aol d rs[i] (hm _ (List.getElem_mem hi)),aH (show i<4611686018427387904 by omega)]
   by_cases e:i=k
   ·subst e;rw [aq hf];exact .inl ⟨_,rfl,rfl⟩
   ·rw [ak (h i hi (by omega))];exact .inr ⟨_,rfl,rfl,by omega⟩) ⟨rfl,Nat.zero_le _⟩
 have he:aI cn (rs,[([d],[(d.1,())],())],((List.length rs:Nat):Int),(0:Int),())=_:=he;unfold cJ;rw [he];rfl
theorem awk (ms:cG) (hl:ms.length≤1000) (id:Int):kg ms [([(id,())],())]=some (ms.filter (fun m => !decide (m.1=id)),()):=by
 have ac4:∃a,kX ms [([(id,())],())]=some (a,())∧((a = -1∧∀j (hj:j<ms.length),¬(ms[j]).1=id)∨∃i,∃hi:i<ms.length,a=((i:Nat):Int)∧(ms[i]).1=id∧∀j (hj:j<ms.length),j<i→¬(ms[j]).1=id):=by
  obtain ⟨e,he,hq⟩:=dU (round:=fB) (x:=(ms,[([(id,())],())],((List.length ms:Nat):Int),((0:Nat):Int),())) ms.length
   (fun i x=>x=(ms,[([(id,())],())],((List.length ms:Nat):Int),((i:Nat):Int),())∧∀j (hj:j<ms.length),j<i→¬(ms[j]).1=id)
   (fun e=>(e=.inl ()∧∀j (hj:j<ms.length),¬(ms[j]).1=id)∨∃i,∃hi:i<ms.length,e=.inr (((i:Nat):Int),())∧(ms[i]).1=id∧∀j (hj:j<ms.length),j<i→¬(ms[j]).1=id) (by
    rintro x ⟨rfl,g⟩
    exact ⟨_,by simp only [fB,ax,mh,aJ,cond_false],.inl ⟨rfl,fun j hj=>g j hj hj⟩⟩) (by
    rintro i x hi ⟨rfl,g⟩
    simp only [fB,ax,mh,kW,aD hi,au,cond_true,aC,List.getElem?_eq_getElem hi,List.getElem?_cons_zero,Option.bind_some,aH (show i<4611686018427387904 by omega)]
    by_cases e:(ms[i]).1=id
    ·rw [aq e];exact .inl ⟨_,rfl,.inr ⟨i,hi,rfl,e,g⟩⟩
    ·rw [ak e];refine .inr ⟨_,rfl,rfl,fun j hj Kc => ?_⟩
     by_cases e2:j=i
     ·subst e2;exact e
     ·exact g j hj (by omega)) ⟨rfl,fun j _ h=>by omega⟩
  have he:aI fB (ms,[([(id,())],())],((List.length ms:Nat):Int),(0:Int),())=_:=he;unfold kX;rw [he];rcases hq with ⟨rfl,g⟩ | ⟨i,hi,rfl,g⟩
  ·exact ⟨-1,rfl,.inl ⟨rfl,g⟩⟩
  ·exact ⟨((i:Nat):Int),rfl,.inr ⟨i,hi,rfl,g⟩⟩
 obtain ⟨a,e1,hq⟩:=ac4;unfold kg;rw [e1];simp only [Option.bind_some];rcases hq with ⟨rfl,g⟩ | ⟨i,hi,rfl,g1,g2⟩
 ·rw [List.filter_eq_self.2 (fun x hx=>by
   obtain ⟨j,hj,rfl⟩:=List.mem_iff_getElem.1 hx;rw [decide_eq_false (g j hj)];rfl)]
  rfl
 ·rw [ak (show ¬((i:Nat):Int) = -1 by omega),aH (show i<4611686018427387904 by omega)];have h0:(ms.take (i+1)).filter (fun m => !decide (m.1=id))=ms.take i:=by
   rw [List.take_succ_eq_append_getElem hi,List.filter_append,List.filter_cons,decide_eq_true g1,List.filter_nil];rw [List.filter_eq_self.2 (fun x hx=>by
    obtain ⟨j,hj,rfl⟩:=List.mem_iff_getElem.1 hx;rw [List.length_take] at hj;rw [List.getElem_take,decide_eq_false (g2 j (by omega) (by omega))];rfl)]
   simp
  obtain ⟨e,he,s,p,rfl,s1,s2,s3⟩:=dU (round:=fa) (x:=(ms,[([(id,())],())],((i:Nat):Int),((i+1:Nat):Int),())) (ms.length-(i+1))
   (fun j x=>∃(s:cG) (p:Nat),x=(s,[([(id,())],())],((p:Nat):Int),((i+1+j:Nat):Int),())∧s.length=ms.length∧p<i+1+j∧s.take p=(ms.take (i+1+j)).filter (fun m => !decide (m.1=id))∧s.drop (i+1+j)=ms.drop (i+1+j))
   (fun e=>∃(s:cG) (p:Nat),e=.inl (s,((p:Nat):Int),())∧s.length=ms.length∧p≤ms.length∧s.take p=ms.filter (fun m => !decide (m.1=id))) (by
    rintro x ⟨s,p,rfl,s1,s2,s3,_⟩
    have e:i+1+(ms.length-(i+1))=ms.length:=by omega
    rw [e] at s2 s3;rw [List.take_length] at s3;refine ⟨_,?_,s,p,rfl,s1,by omega,s3⟩;rw [e];simp only [fa,ax,lz];rw [ak (show ¬((ms.length:Nat):Int)<((List.length s:Nat):Int) by omega)];rfl) (by
    rintro j x hj ⟨s,p,rfl,s1,s2,s3,s4⟩
    have QS:i+1+j<s.length:=by omega
    have OW:i+1+j<ms.length:=by omega
    have ex:s[i+1+j]=ms[i+1+j]:=by
     have h1:=congrArg (fun l:cG=>l[0]?) s4;simp only [List.getElem?_drop,Nat.add_zero] at h1;rw [List.getElem?_eq_getElem QS,List.getElem?_eq_getElem OW] at h1;exact Option.some.inj h1
    have ht:(ms.take (i+1+j+1)).filter (fun m => !decide (m.1=id))=s.take p++(bif !decide ((ms[i+1+j]).1=id) then [ms[i+1+j]] else []):=by
     rw [List.take_succ_eq_append_getElem OW,List.filter_append,←s3,List.filter_cons,List.filter_nil]
     cases decide ((ms[i+1+j]).1=id)<;>rfl
    have hd:s.drop (i+1+j+1)=ms.drop (i+1+j+1):=by
     have h1:=congrArg (fun l:cG=>l.drop 1) s4;simp only [List.drop_drop] at h1;exact h1
    have hp:p<s.length:=by omega
    simp only [fa,ax,lz,kW,aD QS,au,cond_true,aC,cw QS,List.getElem?_eq_getElem QS,List.getElem?_cons_zero,Option.bind_some,aH (show i+1+j<4611686018427387904 by omega),cw hp,List.getElem?_eq_getElem hp,aH (show p<4611686018427387904 by omega),ex];refine .inr ?_
    by_cases e:(ms[i+1+j]).1=id
    ·rw [aq e] at ht ⊢;refine ⟨_,rfl,s,p,rfl,s1,by omega,?_,hd⟩;show s.take p=(ms.take (i+1+j+1)).filter _;rw [ht];exact (List.append_nil _).symm
    ·rw [ak e] at ht ⊢;refine ⟨_,rfl,s.set p ms[i+1+j],p+1,rfl,by rw [List.length_set];exact s1,by omega,?_,?_⟩
     ·show (s.set p ms[i+1+j]).take (p+1)=(ms.take (i+1+j+1)).filter _;rw [ht,List.take_succ_eq_append_getElem (by rw [List.length_set];exact hp),List.getElem_set_self,List.take_set_of_le (Nat.le_refl p)];rfl
     ·show (s.set p ms[i+1+j]).drop (i+1+j+1)=_;rw [List.drop_set_of_lt (by omega)];exact hd) ⟨ms,i,rfl,rfl,by omega,h0.symm,rfl⟩
  have he:aI fa (ms,[([(id,())],())],((i:Nat):Int),((i+1:Nat):Int),())=_:=he;rw [he];simp only [bU,Option.bind_some,cond_false,au,cond_true,aC,aq (show ((p:Nat):Int)≤((List.length s:Nat):Int) by omega),List.drop_zero]
  cases hb:Nat.blt 0 (List.length s-p)
  ·simp only [cond_false,s3]
  ·have hlen:((List.take p s++List.replicate (List.length s-p) ((0:Int),())).length:Int)=((List.length s:Nat):Int):=by
    rw [List.length_append,List.length_take,List.length_replicate];omega
   simp only [cond_true];rw [aq (show ((p:Nat):Int)≤((List.take p s++List.replicate (List.length s-p) ((0:Int),())).length:Int) by omega)];simp only [cond_true];rw [List.take_left' (by rw [List.length_take];omega),s3]
end Go.TM
set_option linter.unusedSimpArgs false
set_option linter.unusedVariables false
namespace Go.TM
open Go
theorem aom {n:Nat} {w:dj} (q:gY n w) (hn:n≤98) {k:Nat} {a:Int} {w':dj} (hs:Gp w k a w'):ng w.1 w.2.1 w.2.2.1 w.2.2.2.1 ((k+1:Nat):Int)=some (decide (a=0),w'.1,w'.2.1,w'.2.2.1,w'.2.2.2.1,()):=by
 have hf:=q.E8;have h5:=q.ya;have hrl:=q.rings.2;have hk:k<w.2.1.length:=by cases hs<;>assumption
 obtain ⟨hd,mS⟩:=q.pV k hk;have hms:∀r∈w.1,r.2.1.length≤1048576:=fun r hr=>by have:=(q.rings.1 r hr).2.1.2;omega
 unfold ng;delta aA bf;simp only [ee (show k<1000 by omega),au,cond_true,aC,cw hk,List.getElem?_eq_getElem hk,Option.bind_some]
 cases hs with
 |none_ _ h=>
  have e1:=We w.1 w.2.1[k] (by omega) hms h;rw [mS] at e1;show Option.bind (cJ w.1 [([w.2.1[k]],[(((k+1:Nat):Int),())],())]) _=_;rw [e1];rfl
 |fail _ i hi hq hfi hb=>
  have e1:=TF w.1 w.2.1[k] (by omega) hms hi hq hfi;rw [mS] at e1;have e2:=P0 hd (by omega) (w.1[i]).1 (w.1[i]).2.1 (hms _ (List.getElem_mem hi));have e3:(dG w.2.1[k] (w.1[i]).1 (w.1[i]).2.1).2.2=false:=by unfold dG;rw [hb];rfl
  show Option.bind (cJ w.1 [([w.2.1[k]],[(((k+1:Nat):Int),())],())]) _=_;rw [e1];simp only [Option.bind_some,ak (show ¬((i:Nat):Int)<0 by omega),cond_false,au,cond_true,aC,cw hi,List.getElem?_eq_getElem hi];rw [e2];simp only [Option.bind_some,e3,Bool.not_false,cond_true];rfl
 |yes _ i hi hq hfi hb=>
  have e1:=TF w.1 w.2.1[k] (by omega) hms hi hq hfi;rw [mS] at e1;have hR:=q.rings.1 _ (List.getElem_mem hi);have hm5:=hR.2.1.2;have e2:=P0 hd (by omega) (w.1[i]).1 (w.1[i]).2.1 (hms _ (List.getElem_mem hi));have e3:dG w.2.1[k] (w.1[i]).1 (w.1[i]).2.1=(qJ w.2.1[k] (w.1[i]).1 (w.1[i]).2.1,iZ w.2.1[k] (w.1[i]).2.1 (gh w.2.1[k] (w.1[i]).1),true):=by unfold dG;rw [hb];rfl
  rw [e3] at e2;have e4:=awk (w.1[i]).2.1 (by omega) ((k+1:Nat):Int);have e5:=kJ (w.1[i]).2.1 (hms _ (List.getElem_mem hi));show Option.bind (cJ w.1 [([w.2.1[k]],[(((k+1:Nat):Int),())],())]) _=_;rw [e1];simp only [Option.bind_some,ak (show ¬((i:Nat):Int)<0 by omega),cond_false,au,cond_true,aC,cw hi,List.getElem?_eq_getElem hi];rw [e2];simp only [Option.bind_some,Bool.not_true,cond_false,e5,e4];have lf:iZ w.2.1[k] (w.1[i]).2.1 (gh w.2.1[k] (w.1[i]).1)=((w.1[i]).2.1.filter fun m => !decide (m.1=((k+1:Nat):Int))).map fun _=>gh w.2.1[k] (w.1[i]).1:=by unfold iZ;rw [mS]
  have hbt:fA (w.1[i]).2.1 (w.2.1[k]).1 (w.1[i]).1 (gh w.2.1[k] (w.1[i]).1)=((w.1[i]).2.1.filter fun m => !decide (m.1=((k+1:Nat):Int))).map fun m=>s5 m.1 (w.1[i]).1 (gh w.2.1[k] (w.1[i]).1):=by unfold fA;rw [mS]
  have Qd:((w.1[i]).2.1.filter fun m => !decide (m.1=((k+1:Nat):Int))).length≤5:=Nat.le_trans (List.length_filter_le _ _) hm5;rw [lf,hbt];generalize ((w.1[i]).2.1.filter fun m => !decide (m.1=((k+1:Nat):Int)))=L at Qd;generalize gh w.2.1[k] (w.1[i]).1=b;generalize hr:qJ w.2.1[k] (w.1[i]).1 (w.1[i]).2.1=r;generalize (w.1[i]).1=c;generalize (w.1[i]).2.1=ms;have l1:=bP (round:=gw) (e:=.inl (w.1,w.2.1.set k r,w.2.2.1++L.map (fun m=>s5 m.1 c b),w.2.2.2.1,())) L.length (fun j=>(w.1,w.2.1.set k r,w.2.2.1++(L.take j).map (fun m=>s5 m.1 c b),w.2.2.2.1,c,ms,L.map (fun _=>b),L,((List.length L:Nat):Int),((j:Nat):Int),())) (by
   simp only [gw,bz,qF,aF,aJ,cond_false,List.take_length]) (fun j hj=>by
   have hb:((L.take j).map (fun m=>s5 m.1 c b)).length≤5:=by rw [List.length_map,List.length_take];omega
   have OW:j<(L.map fun _=>b).length:=by rw [List.length_map];exact hj
   have hx:(L.map fun _=>b)[j]=b:=List.getElem_map _;rw [List.take_succ_eq_append_getElem hj,List.map_append,←List.append_assoc];simp only [gw,bz,qF,aF,aD hj,au,cond_true,aC,cw hj,cw OW,List.getElem?_eq_getElem hj,List.getElem?_eq_getElem OW,hx,Option.bind_some,aW (show ((w.2.2.1++(L.take j).map (fun m=>s5 m.1 c b)).length+1)*176≤lim by rw [List.length_append];unfold lim;omega),aH (show j<4611686018427387904 by omega)];rfl)
  have l1:aI gw (w.1,w.2.1.set k r,w.2.2.1++(L.take 0).map (fun m=>s5 m.1 c b),w.2.2.2.1,c,ms,L.map (fun _=>b),L,((List.length L:Nat):Int),(0:Int),())=_:=l1;rw [show (L.take 0).map (fun m=>s5 m.1 c b)=[] from rfl,List.append_nil] at l1;show bU (aI gw (w.1,w.2.1.set k r,w.2.2.1,w.2.2.2.1,c,ms,L.map (fun _=>b),L,((List.length L:Nat):Int),(0:Int),())) _ _=_;rw [l1];rfl
theorem Si {d:bQ} {b:eC} (h:(bt d b).2=false):(bt d b).1=d:=by
 unfold bt at h ⊢
 cases hc:w5 d b
 ·rfl
 ·rw [hc] at h;cases h
theorem aon {n:Nat} {w:dj} (q:gY n w) (hn:n≤98) {x:uR} (hx:NN x) {a:Int} {w':dj} (hs:KU w x a w'):gI w.1 w.2.1 w.2.2.1 w.2.2.2.1 x.1 x.2.1 x.2.2.1 x.2.2.2.1 x.2.2.2.2.1 x.q.1 x.q.2.1 x.q.2.2.1 x.q.2.2.2.1 x.q.2.2.2.2.1 x.q.q.1 x.q.q.2.1 x.q.q.2.2.1 x.q.q.2.2.2.1 x.q.q.2.2.2.2.1 x.q.q.q.1 x.q.q.q.2.1=some (decide (a=0),w'.1,w'.2.1,w'.2.2.1,w'.2.2.2.1,()):=by
 have h5:=q.ya;unfold gI;delta aA bf
 cases hs with
 |item k hk lf k1=>
  obtain ⟨hd,mS⟩:=q.pV k hk;have e1:=(C7 w.2.1[k] x.2.2.1 (x.2.2.2.1,x.2.2.2.2.1,x.q.1,x.q.2.1,()) (hd.small (by omega))).2;simp only [lf,ee (show k<1000 by omega),au,cond_true,aC,cw hk,List.getElem?_eq_getElem hk,Option.bind_some,aq k1];rw [e1];rfl
 |tok k hk lf k2 h=>
  have e1:=ZT q (by omega) h;have e1:dQ w.1 w.2.1 w.2.2.1 w.2.2.2.1 ((k+1:Nat):Int) x.q.2.2.1 x.q.2.2.2.1 x.q.2.2.2.2.1 x.q.q.1 x.q.q.2.1 x.q.q.2.2.1=_:=e1;simp only [lf,ee (show k<1000 by omega),au,cond_true,aC,cw hk,ak (show ¬x.1=1 by omega),aq k2,cond_false];rw [e1];rfl
 |TB k hk lf k1 k2 hb=>
  obtain ⟨hd,mS⟩:=q.pV k hk;have e1:=(Ax w.2.1[k] (x.q.q.2.2.2.1,x.q.q.2.2.2.2.1,x.q.q.q.1,x.q.q.q.2.1,()) (hd.small (by omega)) (Nat.le_trans hx.bun (by decide))).2;simp only [lf,ee (show k<1000 by omega),au,cond_true,aC,cw hk,List.getElem?_eq_getElem hk,Option.bind_some,ak k1,ak k2,cond_false];rw [e1,Si hb,hb];show some (false,w.1,w.2.1.set k w.2.1[k],w.2.2.1,w.2.2.2.1,())=_;rw [List.set_getElem_self];rfl
 |bun k hk lf k1 k2 hb=>
  obtain ⟨hd,mS⟩:=q.pV k hk;have e1:=(Ax w.2.1[k] (x.q.q.2.2.2.1,x.q.q.2.2.2.2.1,x.q.q.q.1,x.q.q.q.2.1,()) (hd.small (by omega)) (Nat.le_trans hx.bun (by decide))).2;simp only [lf,ee (show k<1000 by omega),au,cond_true,aC,cw hk,List.getElem?_eq_getElem hk,Option.bind_some,ak k1,ak k2,cond_false];rw [e1,hb];rfl
theorem Qc (xs:List uR) {k:Nat} (hk:k<xs.length):RB xs ((k:Nat):Int) ((k+1:Nat):Int)=some (xs.take k++xs.drop (k+1),()):=by
 unfold RB;rw [aq (show (0:Int)≤((k:Nat):Int) by omega),aq (show ((k+1:Nat):Int)=((k:Nat):Int)+1 by omega),aq (show ((k:Nat):Int)<((List.length xs:Nat):Int) by omega)];rfl
theorem abF {x:uR} (hx:NN x):qn x.1 x.2.1 x.2.2.1 x.2.2.2.1 x.2.2.2.2.1 x.q.1 x.q.2.1 x.q.2.2.1 x.q.2.2.2.1 x.q.2.2.2.2.1 x.q.q.1 x.q.q.2.1 x.q.q.2.2.1 x.q.q.2.2.2.1 x.q.q.2.2.2.2.1 x.q.q.q.1 x.q.q.q.2.1=some x:=by
 unfold qn;delta bF;have e1:=(kZ x.q.2.2.1 x.q.2.2.2.1 x.q.2.2.2.2.1 x.q.q.1 x.q.q.2.1 x.q.q.2.2.1 (Nat.le_trans hx.Tu (by decide))).2;have e2:=(jG (x.q.q.2.2.2.1,x.q.q.2.2.2.2.1,x.q.q.q.1,x.q.q.q.2.1,()) (Nat.le_trans hx.bun (by decide))).2;rw [e1];simp only [Option.bind_some];rw [e2];rfl
theorem abG {n:Nat} {w:dj} (q:gY n w) (hn:n≤98) {e:w6} {a:Int} {w':dj} (hs:KV w e a w'):jx w.1 w.2.1 w.2.2.1 w.2.2.2.1 e.1 e.2.1 e.2.2.1 e.2.2.2.1 e.2.2.2.2.1=some (decide (a=0),w'.1,w'.2.1,w'.2.2.1,w'.2.2.2.1,()):=by
 have hf:=q.E8;unfold jx;delta aX cM
 cases hs with
 |none_ h0=>
  rw [aq (show ((List.length w.2.2.1:Nat):Int)=0 by omega)];rfl
 |TC j hj ht k5=>
  have hX:=abF (q.lets _ (List.getElem_mem hj));simp only [ak (show ¬((List.length w.2.2.1:Nat):Int)=0 by omega),cond_false,ht,au,cond_true,aC,cw hj,List.getElem?_eq_getElem hj,Option.bind_some,aq k5];rw [hX];simp only [Option.bind_some,aW (show (w.2.2.1.length+1)*176≤lim by unfold lim;omega),cond_true];rfl
 |abB j hj ht k5 k4=>
  simp only [ak (show ¬((List.length w.2.2.1:Nat):Int)=0 by omega),cond_false,ht,au,cond_true,aC,cw hj,List.getElem?_eq_getElem hj,Option.bind_some,ak k5,aH (show j<4611686018427387904 by omega),Qc _ hj,aq k4];rfl
 |carry j hj ht k5 k4 h=>
  have hq:=q.dW (l:=List.take j w.2.2.1++List.drop (j+1) w.2.2.1) (fun x hx=>by
   rcases List.mem_append.1 hx with hx | hx
   ·exact q.lets x (List.mem_of_mem_take hx)
   ·exact q.lets x (List.mem_of_mem_drop hx)) (by rw [List.length_append,List.length_take,List.length_drop];omega)
  have e1:=aon hq hn (q.lets _ (List.getElem_mem hj)) h;have e1:gI w.1 w.2.1 (List.take j w.2.2.1++List.drop (j+1) w.2.2.1) w.2.2.2.1 (w.2.2.1[j]).1 (w.2.2.1[j]).2.1 (w.2.2.1[j]).2.2.1 (w.2.2.1[j]).2.2.2.1 (w.2.2.1[j]).2.2.2.2.1 (w.2.2.1[j]).q.1 (w.2.2.1[j]).q.2.1 (w.2.2.1[j]).q.2.2.1 (w.2.2.1[j]).q.2.2.2.1 (w.2.2.1[j]).q.2.2.2.2.1 (w.2.2.1[j]).q.q.1 (w.2.2.1[j]).q.q.2.1 (w.2.2.1[j]).q.q.2.2.1 (w.2.2.1[j]).q.q.2.2.2.1 (w.2.2.1[j]).q.q.2.2.2.2.1 (w.2.2.1[j]).q.q.q.1 (w.2.2.1[j]).q.q.q.2.1=_:=e1;simp only [ak (show ¬((List.length w.2.2.1:Nat):Int)=0 by omega),cond_false,ht,au,cond_true,aC,cw hj,List.getElem?_eq_getElem hj,Option.bind_some,ak k5,aH (show j<4611686018427387904 by omega),Qc _ hj,ak k4];rw [e1];rfl
theorem Sj {d:bQ} (q:vu d) (h:d.2.1=true):JW d=d:=by
 obtain ⟨hm,ho,hj,hjm,hb⟩:=q.dead h;obtain ⟨d0,d1,d2,d3,d4,d5,d6,d7,d8,d9,d10,d11,d12,d13,d14,d15,d16,d17,d18,d19,d20,d21,d22,d23,u⟩:=d;obtain ⟨m0,m1,m2,m3,m4,m5,m6,m7,m8,m9,m10,m11,m12,m13,m14,m15⟩:=hm;simp only [az] at *;subst h ho hj hjm hb m0 m1 m2 m3 m4 m5 m6 m7 m8 m9 m10 m11 m12 m13 m14 m15;rfl
theorem ZW {n:Nat} {d:bQ} (h:mm n d) (hn:n≤100):wS d.1 d.2.1 d.2.2.1 d.2.2.2.1 d.2.2.2.2.1 d.q.1 d.q.2.1 d.q.2.2.1 d.q.2.2.2.1 d.q.2.2.2.2.1 d.q.q.1 d.q.q.2.1 d.q.q.2.2.1 d.q.q.2.2.2.1 d.q.q.2.2.2.2.1 d.q.q.q.1 d.q.q.q.2.1 d.q.q.q.2.2.1 d.q.q.q.2.2.2.1 d.q.q.q.2.2.2.2.1 d.q.q.q.q.1 d.q.q.q.q.2.1 d.q.q.q.q.2.2.1 d.q.q.q.q.2.2.2.1=some (JW d):=by
 have hW:=h.small hn;unfold nj at hW;unfold wS;rw [uL _ (by omega)];rfl
theorem doI {n:Nat} {w:dj} (q:gY n w) (hn:n≤98) {e:w6} {a:Int} {w':dj} (hs:Qj w e a w'):lA w.1 w.2.1 w.2.2.1 w.2.2.2.1 e.1 e.2.1 e.2.2.1 e.2.2.2.1 e.2.2.2.2.1=some (decide (a=0),w'.1,w'.2.1,w'.2.2.1,w'.2.2.2.1,()):=by
 have h5:=q.ya;unfold lA;delta aA aP bf
 cases hs with
 |TD k hk lf k1 hb=>
  have e1:=(Cd w.2.1[k] e.2.2.2.1 e.2.2.2.2.1 ((q.pV k hk).1.small (by omega))).2;simp only [lf,ee (show k<1000 by omega),au,cond_true,aC,cw hk,List.getElem?_eq_getElem hk,Option.bind_some,aq k1];rw [e1,hb];rfl
 |say k hk lf k1 hb=>
  have e1:=(Cd w.2.1[k] e.2.2.2.1 e.2.2.2.2.1 ((q.pV k hk).1.small (by omega))).2;simp only [lf,ee (show k<1000 by omega),au,cond_true,aC,cw hk,List.getElem?_eq_getElem hk,Option.bind_some,aq k1];rw [e1,hb];rfl
 |HC k hk lf k2 t hF=>
  obtain ⟨t',b,s1,i1,_⟩:=vA w.2.1[k] ((q.pV k hk).1.small (by omega));have e1:mN (w.2.1[k]).1 (w.2.1[k]).2.1 (w.2.1[k]).2.2.1 (w.2.1[k]).2.2.2.1 (w.2.1[k]).2.2.2.2.1 (w.2.1[k]).q.1 (w.2.1[k]).q.2.1 (w.2.1[k]).q.2.2.1 (w.2.1[k]).q.2.2.2.1 (w.2.1[k]).q.2.2.2.2.1 (w.2.1[k]).q.q.1 (w.2.1[k]).q.q.2.1 (w.2.1[k]).q.q.2.2.1 (w.2.1[k]).q.q.2.2.2.1 (w.2.1[k]).q.q.2.2.2.2.1 (w.2.1[k]).q.q.q.1 (w.2.1[k]).q.q.q.2.1 (w.2.1[k]).q.q.q.2.2.1 (w.2.1[k]).q.q.q.2.2.2.1 (w.2.1[k]).q.q.q.2.2.2.2.1 (w.2.1[k]).q.q.q.q.1 (w.2.1[k]).q.q.q.q.2.1 (w.2.1[k]).q.q.q.q.2.2.1 (w.2.1[k]).q.q.q.q.2.2.2.1=some (t.1,t.2.1,t.2.2.1,t.2.2.2.1,t.2.2.2.2.1,t.q.1,false,()):=i1.trans (s1.symm.trans hF);simp only [lf,ee (show k<1000 by omega),au,cond_true,aC,cw hk,List.getElem?_eq_getElem hk,Option.bind_some,ak (show ¬e.1=1 by omega),aq k2,cond_false];rw [e1];rfl
 |first k hk lf k2 t hF h=>
  obtain ⟨t',b,s1,i1,_⟩:=vA w.2.1[k] ((q.pV k hk).1.small (by omega));have e1:mN (w.2.1[k]).1 (w.2.1[k]).2.1 (w.2.1[k]).2.2.1 (w.2.1[k]).2.2.2.1 (w.2.1[k]).2.2.2.2.1 (w.2.1[k]).q.1 (w.2.1[k]).q.2.1 (w.2.1[k]).q.2.2.1 (w.2.1[k]).q.2.2.2.1 (w.2.1[k]).q.2.2.2.2.1 (w.2.1[k]).q.q.1 (w.2.1[k]).q.q.2.1 (w.2.1[k]).q.q.2.2.1 (w.2.1[k]).q.q.2.2.2.1 (w.2.1[k]).q.q.2.2.2.2.1 (w.2.1[k]).q.q.q.1 (w.2.1[k]).q.q.q.2.1 (w.2.1[k]).q.q.q.2.2.1 (w.2.1[k]).q.q.q.2.2.2.1 (w.2.1[k]).q.q.q.2.2.2.2.1 (w.2.1[k]).q.q.q.q.1 (w.2.1[k]).q.q.q.q.2.1 (w.2.1[k]).q.q.q.q.2.2.1 (w.2.1[k]).q.q.q.q.2.2.2.1=some (t.1,t.2.1,t.2.2.1,t.2.2.2.1,t.2.2.2.2.1,t.q.1,true,()):=i1.trans (s1.symm.trans hF);have e2:=ZT q (by omega) h;simp only [lf,ee (show k<1000 by omega),au,cond_true,aC,cw hk,List.getElem?_eq_getElem hk,Option.bind_some,ak (show ¬e.1=1 by omega),aq k2,cond_false];rw [e1];simp only [Option.bind_some,cond_true];rw [e2];rfl
 |again k hk lf k6 h=>
  have e2:=aiI q hn h;simp only [lf,ee (show k<1000 by omega),au,cond_true,aC,cw hk,ak (show ¬e.1=1 by omega),ak (show ¬e.1=2 by omega),aq k6,cond_false];rw [e2];rfl
 |move k hk lf k7 h=>
  have e2:=aom q hn h;simp only [lf,ee (show k<1000 by omega),au,cond_true,aC,cw hk,ak (show ¬e.1=1 by omega),ak (show ¬e.1=2 by omega),ak (show ¬e.1=6 by omega),aq k7,cond_false];rw [e2];rfl
 |HD k hk lf k8 hb=>
  have e1:=ZW (q.pV k hk).1 (by omega);rw [Sj (q.pV k hk).1.q hb] at e1;simp only [lf,ee (show k<1000 by omega),au,cond_true,aC,cw hk,List.getElem?_eq_getElem hk,Option.bind_some,ak (show ¬e.1=1 by omega),ak (show ¬e.1=2 by omega),ak (show ¬e.1=6 by omega),ak (show ¬e.1=7 by omega),aq k8,cond_false];rw [e1,hb];show some (false,w.1,w.2.1.set k w.2.1[k],w.2.2.1,w.2.2.2.1,())=_;rw [List.set_getElem_self];rfl
 |TE k hk lf k8 hb=>
  have e1:=ZW (q.pV k hk).1 (by omega);simp only [lf,ee (show k<1000 by omega),au,cond_true,aC,cw hk,List.getElem?_eq_getElem hk,Option.bind_some,ak (show ¬e.1=1 by omega),ak (show ¬e.1=2 by omega),ak (show ¬e.1=6 by omega),ak (show ¬e.1=7 by omega),aq k8,cond_false];rw [e1,hb];rfl
 |NS k hk lf k9 hb=>
  have e1:=(Mb w.2.1[k] ((q.pV k hk).1.small (by omega))).2;simp only [lf,ee (show k<1000 by omega),au,cond_true,aC,cw hk,List.getElem?_eq_getElem hk,Option.bind_some,ak (show ¬e.1=1 by omega),ak (show ¬e.1=2 by omega),ak (show ¬e.1=6 by omega),ak (show ¬e.1=7 by omega),ak (show ¬e.1=8 by omega),aq k9,cond_false];rw [e1,hb];rfl
 |abC k hk lf k9 hb=>
  have e1:=(Mb w.2.1[k] ((q.pV k hk).1.small (by omega))).2;simp only [lf,ee (show k<1000 by omega),au,cond_true,aC,cw hk,List.getElem?_eq_getElem hk,Option.bind_some,ak (show ¬e.1=1 by omega),ak (show ¬e.1=2 by omega),ak (show ¬e.1=6 by omega),ak (show ¬e.1=7 by omega),ak (show ¬e.1=8 by omega),aq k9,cond_false];rw [e1,hb];rfl
 |NT k hk lf Wm h=>
  obtain ⟨n1,n2,n6,n7,n8,n9⟩:=Wm;have e1:=abG q hn h;rw [lf] at e1;simp only [lf,ee (show k<1000 by omega),au,cond_true,aC,cw hk,ak n1,ak n2,ak n6,ak n7,ak n8,ak n9,cond_false];rw [e1];rfl
end Go.TM
set_option linter.unusedSimpArgs false
set_option linter.unusedVariables false
namespace Go.TM
open Go
theorem NP.rings {w:dj} {k:Nat} {t:gN} {a:Int} {w':dj} (h:NP w k t a w'):w'.1=w.1∧(a=0∨a=1):=by
 cases h with
 |no=>exact ⟨rfl,.inr rfl⟩
 |yes=>exact ⟨rfl,.inl rfl⟩
theorem KT.rings {w:dj} {k:Nat} {a:Int} {w':dj} (h:KT w k a w'):w'.1=w.1∧(a=0∨a=1):=by
 cases h with
 |no=>exact ⟨rfl,.inr rfl⟩
 |yes=>exact ⟨rfl,.inl rfl⟩
theorem Gp.rings {w:dj} {k:Nat} {a:Int} {w':dj} (h:Gp w k a w'):w'.1=w.1∧(a=0∨a=1):=by
 cases h with
 |none_=>exact ⟨rfl,.inr rfl⟩
 |fail=>exact ⟨rfl,.inr rfl⟩
 |yes=>exact ⟨rfl,.inl rfl⟩
theorem KU.rings {w:dj} {x:uR} {a:Int} {w':dj} (h:KU w x a w'):w'.1=w.1∧(a=0∨a=1):=by
 cases h with
 |item=>exact ⟨rfl,.inl rfl⟩
 |tok _ _ _ _ h=>exact h.rings
 |TB=>exact ⟨rfl,.inr rfl⟩
 |bun=>exact ⟨rfl,.inl rfl⟩
theorem KV.rings {w:dj} {e:w6} {a:Int} {w':dj} (h:KV w e a w'):w'.1=w.1∧(a=0∨a=1):=by
 cases h with
 |none_=>exact ⟨rfl,.inr rfl⟩
 |TC=>exact ⟨rfl,.inl rfl⟩
 |abB=>exact ⟨rfl,.inl rfl⟩
 |carry _ _ _ _ _ h=>exact h.rings
theorem Qj.rings {w:dj} {e:w6} {a:Int} {w':dj} (h:Qj w e a w'):w'.1=w.1∧(a=0∨a=1):=by
 cases h with
 |TD=>exact ⟨rfl,.inr rfl⟩
 |say=>exact ⟨rfl,.inl rfl⟩
 |HC=>exact ⟨rfl,.inr rfl⟩
 |first _ _ _ _ _ _ h=>exact h.rings
 |again _ _ _ _ h=>exact h.rings
 |move _ _ _ _ h=>exact h.rings
 |HD=>exact ⟨rfl,.inr rfl⟩
 |TE=>exact ⟨rfl,.inl rfl⟩
 |NS=>exact ⟨rfl,.inr rfl⟩
 |abC=>exact ⟨rfl,.inl rfl⟩
 |NT _ _ _ _ h=>exact h.rings
theorem aoo {e:w6} (h:Fl e):xA e.1 e.2.1 e.2.2.1 e.2.2.2.1 e.2.2.2.2.1=some (true,()):=by
 unfold xA fK zQ;simp only [qI,Cb,aq h.kind.1,aq h.kind.2,aq h.id.1,aq h.id.2,Bool.and_self,Option.bind_some,Bool.not_true,cond_false,ak (show ¬e.2.2.1<0 by have:=h.at_;omega)]
 by_cases h1:e.1=1
 ·obtain ⟨⟨a1,a2⟩,a3⟩:=h.say h1;simp only [aq h1,aq a1,aq a2,Bool.and_self,cond_true,Option.bind_some,aq (show ((ByteArray.size e.2.2.2.2.1:Nat):Int)≤60 by omega)]
 ·obtain ⟨a1,a2⟩:=h.no h1;simp only [ak h1,aq a1,a2,cond_true,cond_false];show Option.bind (some (tE ByteArray.empty ByteArray.empty,())) _=_;rw [Dl];rfl
theorem Wf {rs:od} (h:Fh rs):tp rs=some ((cL rs).1,(cL rs).2.1,(cL rs).2.2.1,(cL rs).2.2.2.1,true,()):=by
 have hq:=AB h;have hw:rs.length+wl rY rs≤1048576:=ZN hq.rings.1 hq.rings.2;obtain ⟨b,r1,r2⟩:=R7 rs hw;rw [Hb h] at r1;have hb:true=b:=congrArg (fun z=>z.1) (Option.some.inj r1);subst hb;unfold tp;delta aF dz;rw [r2];simp only [Option.bind_some,Bool.not_true,cond_false,R8 _ hw,V2,bU];rfl
theorem awm {rs:od} (hv:Fh rs) (ds:List w6) (hl:ds.length≤89) (he:∀e∈ds,Fl e):∃(w:dj) (xI:cG),tw rs ds=some (w.1,w.2.1,w.2.2.1,w.2.2.2.1,xI,true,())∧gY ds.length w∧w.1=rs∧∃R S,qL ds R S w:=by
 have hr:∀i (hi:i<rs.length),(rs[i]).1=((i+1:Nat):Int):=fun i hi=>(hv.each i hi).1
 have l1:=bP (round:=jW) (e:=.inl (ds,[],[],[],[],(cL rs).1,(cL rs).2.1,(cL rs).2.2.1,(cL rs).2.2.2.1,())) ds.length (fun k=>(ds,[],[],[],[],(cL rs).1,(cL rs).2.1,(cL rs).2.2.1,(cL rs).2.2.2.1,ds,((List.length ds:Nat):Int),((k:Nat):Int),())) (by
  simp only [jW,kq,sS,ax,aJ,cond_false]) (fun k hk=>by
  simp only [jW,kq,sS,ax,aD hk,cond_true,au,aC,List.getElem?_eq_getElem hk,Option.bind_some,aoo (he _ (List.getElem_mem hk)),Bool.not_true,cond_false,aH (show k<4611686018427387904 by omega)])
 have l1:aI jW (ds,[],[],[],[],(cL rs).1,(cL rs).2.1,(cL rs).2.2.1,(cL rs).2.2.2.1,ds,((List.length ds:Nat):Int),(0:Int),())=_:=l1;obtain ⟨e,l2,w,xI,rfl,hw⟩:=dU (round:=jX) (x:=([],[],[],[],(cL rs).1,(cL rs).2.1,(cL rs).2.2.1,(cL rs).2.2.2.1,[],ds,((List.length ds:Nat):Int),((0:Nat):Int),())) ds.length
  (fun k x=>∃(w:dj) (xI:cG),x=([],[],[],[],w.1,w.2.1,w.2.2.1,w.2.2.2.1,xI,ds,((List.length ds:Nat):Int),((k:Nat):Int),())∧xI.length=k∧gY k w∧w.1=rs∧∃R S,qL ds R S w)
  (fun e=>∃(w:dj) (xI:cG),e=.inl ([],[],[],[],w.1,w.2.1,w.2.2.1,w.2.2.2.1,xI,())∧gY ds.length w∧w.1=rs∧∃R S,qL ds R S w) (by
   rintro x ⟨w,xI,rfl,q,hw⟩
   exact ⟨_,by simp only [jX,kq,sU,ax,aF,aJ,cond_false],w,xI,rfl,hw⟩) (by
   rintro k x hk ⟨w,xI,rfl,q,hw,h1,R,S,hN⟩
   obtain ⟨b,w',_,hw',hs⟩:=P9 hw (by omega) (he _ (List.getElem_mem hk));have e1:=doI hw (by omega) hs;obtain ⟨g1,g2⟩:=hs.rings;have e2:nW w.1 w.2.1 w.2.2.1 w.2.2.2.1 (ds[k]).1 (ds[k]).2.1 (ds[k]).2.2.1 (ds[k]).2.2.2.1 (ds[k]).2.2.2.2.1=some (b,w'.1,w'.2.1,w'.2.2.1,w'.2.2.2.1,()):=by
    unfold nW;rw [e1];rcases g2 with rfl | rfl<;>rfl
   refine .inr ⟨([],[],[],[],w'.1,w'.2.1,w'.2.2.1,w'.2.2.2.1,xI++[(b,())],ds,((List.length ds:Nat):Int),((k+1:Nat):Int),()),?_,w',_,rfl,by rw [List.length_append,q];rfl,hw',g1.trans h1,awj hw (by omega) (by rw [h1];exact hr) hN (List.getElem_mem hk) hs⟩;simp only [jX,kq,sU,ax,aF,aD hk,cond_true,au,aC,List.getElem?_eq_getElem hk,Option.bind_some,e2,aW (show (xI.length+1)*8≤lim by rw [q];unfold lim;omega),aH (show k<4611686018427387904 by omega)]) ⟨_,[],rfl,rfl,AB hv,rfl,_,_,Sh ds⟩
 have l2:aI jX ([],[],[],[],(cL rs).1,(cL rs).2.1,(cL rs).2.2.1,(cL rs).2.2.2.1,[],ds,((List.length ds:Nat):Int),(0:Int),())=_:=l2;refine ⟨w,xI,?_,hw⟩;unfold tw;delta aF dz;rw [Wf hv];simp only [Option.bind_some,Bool.not_true,cond_false,ak (show ¬(90:Int)<((List.length ds:Nat):Int) by omega),l1,bU,l2]
theorem aop (l:cG) (hl:l.length≤1000) (x:Int) (h:(x,())∈l):Hv l x=some (true,()):=by
 obtain ⟨e,he,rfl⟩:=dU (round:=wV) (x:=(l,x,((0:Nat):Int),())) l.length (fun i y=>y=(l,x,((i:Nat):Int),())∧∀j (hj:j<l.length),j<i→¬(l[j]).1=x) (fun e=>e=.inr (true,())) (by
   rintro y ⟨rfl,g⟩
   obtain ⟨j,hj,e⟩:=List.mem_iff_getElem.1 h;exact absurd (congrArg Prod.fst e) (g j hj hj)) (by
   rintro i y hi ⟨rfl,g⟩
   simp only [wV,JI,aD hi,au,cond_true,aC,List.getElem?_eq_getElem hi,Option.bind_some,aH (show i<4611686018427387904 by omega)]
   by_cases e:(l[i]).1=x
   ·rw [aq e];exact .inl ⟨_,rfl,rfl⟩
   ·rw [ak e];refine .inr ⟨_,rfl,rfl,fun j hj Kc => ?_⟩
    by_cases e2:j=i
    ·subst e2;exact e
    ·exact g j hj (by omega)) ⟨rfl,fun j _ h=>by omega⟩
 have he:aI wV (l,x,(0:Int),())=_:=he;unfold Hv;rw [he];rfl
theorem ZX (rs:od) (ds:List w6) (w:dj) (nx:cG) (i:Int) (x:sf) (hx:D2 ds x.2.2.2.2.1 x.q.2.1) (hl:ds.length≤1000) :
  aI jr (rs,ds,w.1,w.2.1,w.2.2.1,w.2.2.2.1,nx,i,x.1,x.2.1,x.2.2.1,x.2.2.2.1,x.2.2.2.2.1,x.q.1,x.q.2.1,x.q.2.2.1,false,(0:Int),())=some (.inl (rs,ds,w.1,w.2.1,w.2.2.1,w.2.2.2.1,nx,i,true,())):=by
 obtain ⟨e,he,ZY,rfl,hq⟩:=dU (round:=jr) (x:=(rs,ds,w.1,w.2.1,w.2.2.1,w.2.2.2.1,nx,i,x.1,x.2.1,x.2.2.1,x.2.2.2.1,x.2.2.2.2.1,x.q.1,x.q.2.1,x.q.2.2.1,false,((0:Nat):Int),())) ds.length
  (fun k y=>∃ZY:Bool,y=(rs,ds,w.1,w.2.1,w.2.2.1,w.2.2.2.1,nx,i,x.1,x.2.1,x.2.2.1,x.2.2.2.1,x.2.2.2.2.1,x.q.1,x.q.2.1,x.q.2.2.1,ZY,((k:Nat):Int),())∧∀j (hj:j<ds.length),j<k→(ds[j].1=1∧ds[j].2.1=x.2.2.2.2.1∧ds[j].2.2.2.2.1=x.q.2.1)→ZY=true)
  (fun e=>∃ZY:Bool,e=.inl (rs,ds,w.1,w.2.1,w.2.2.1,w.2.2.2.1,nx,i,ZY,())∧∀j (hj:j<ds.length),(ds[j].1=1∧ds[j].2.1=x.2.2.2.2.1∧ds[j].2.2.2.2.1=x.q.2.1)→ZY=true) (by
   rintro y ⟨ZY,rfl,g⟩
   exact ⟨_,by simp only [jr,aX,uI,aJ,cond_false],ZY,rfl,fun j hj=>g j hj hj⟩) (by
   rintro k y hk ⟨ZY,rfl,g⟩
   have up:∀b:Bool,((ds[k].1=1∧ds[k].2.1=x.2.2.2.2.1∧ds[k].2.2.2.2.1=x.q.2.1)→b=true)→(ZY=true→b=true)→∀j (hj:j<ds.length),j<k+1→(ds[j].1=1∧ds[j].2.1=x.2.2.2.2.1∧ds[j].2.2.2.2.1=x.q.2.1)→b=true:=fun b h1 h2 j hj N0 hm=>by
    by_cases e:j=k
    ·subst e;exact h1 hm
    ·exact h2 (g j hj (by omega) hm)
   simp only [jr,aX,uI,aD hk,cond_true,au,aC,List.getElem?_eq_getElem hk,Option.bind_some,aH (show k<4611686018427387904 by omega)]
   cases ZY
   ·simp only [cond_false]
    by_cases a1:ds[k].1=1
    ·by_cases a2:ds[k].2.1=x.2.2.2.2.1
     ·simp only [aq a1,aq a2,cond_true]
      cases a3:tE ds[k].2.2.2.2.1 x.q.2.1
      ·exact .inr ⟨_,rfl,false,rfl,up false (fun h=>by rw [h.2.2,Dl] at a3;cases a3) (fun h=>h)⟩
      ·exact .inr ⟨_,rfl,true,rfl,up true (fun _=>rfl) (fun _=>rfl)⟩
     ·simp only [aq a1,ak a2,cond_true,cond_false];exact .inr ⟨_,rfl,false,rfl,up false (fun h=>absurd h.2.1 a2) (fun h=>h)⟩
    ·simp only [ak a1,cond_false];exact .inr ⟨_,rfl,false,rfl,up false (fun h=>absurd h.1 a1) (fun h=>h)⟩
   ·exact .inr ⟨_,rfl,true,rfl,up true (fun _=>rfl) (fun h=>h)⟩) ⟨false,rfl,fun j hj h=>by omega⟩
 have he:aI jr (rs,ds,w.1,w.2.1,w.2.2.1,w.2.2.2.1,nx,i,x.1,x.2.1,x.2.2.1,x.2.2.2.1,x.2.2.2.2.1,x.q.1,x.q.2.1,x.q.2.2.1,false,(0:Int),())=_:=he;obtain ⟨e,hm,e1,e2,e3⟩:=hx;obtain ⟨j,hj,rfl⟩:=List.mem_iff_getElem.1 hm;rw [he,hq j hj ⟨e1,e2,e3⟩]
def Db (N:List sf) (i:Nat):cG:=(List.range 10).map fun c=>((((((N.take i).filter fun e=>decide (e.2.1=((c:Nat):Int))).length+1:Nat)):Int),())
theorem CJ (N:List sf) (i:Nat):(Db N i).length=10:=by unfold Db;rw [List.length_map,List.length_range]
theorem J8 (N:List sf) (i:Nat) {c:Nat} (hc:c<10):(Db N i)[c]?=some ((((((N.take i).filter fun e=>decide (e.2.1=((c:Nat):Int))).length+1:Nat)):Int),()):=by
 unfold Db;rw [List.getElem?_map,List.getElem?_range hc];rfl
theorem Wg (N:List sf) {i:Nat} (hi:i<N.length) {c:Nat} (hc:(N[i]).2.1=((c:Nat):Int)) (v:Int) (hv:v=(((((N.take i).filter fun e=>decide (e.2.1=((c:Nat):Int))).length+1+1:Nat)):Int)):(Db N i).set c (v,())=Db N (i+1):=by
 apply List.ext_getElem?;intro j
 by_cases hj:j<10
 ·rw [J8 N (i+1) hj,List.getElem?_set,List.take_succ_eq_append_getElem hi,List.filter_append,List.filter_cons,List.filter_nil,hc]
  by_cases e:c=j
  ·subst e;rw [if_pos rfl,if_pos (by rw [CJ];exact hj),decide_eq_true rfl,hv];simp
  ·rw [if_neg e,J8 N i hj,decide_eq_false (by omega)];simp
 ·rw [List.getElem?_eq_none (by rw [List.length_set,CJ];omega),List.getElem?_eq_none (by rw [CJ];omega)]
theorem J9 (l:List (Int×Unit)) (h:l.length≤1048576):qa l l=some (true,()):=by
 have hl:=bP (round:=jY) (e:=.inl ()) l.length (fun k=>(l,l,((k:Nat):Int),())) (by
   simp only [jY,sV,aJ,cond_false]) (fun k hk=>by
   simp only [jY,sV,aD hk,au,cond_true,cond_false,aC,List.getElem?_eq_getElem hk,Option.bind_some,decide_true,Bool.not_true,aH (show k<4611686018427387904 by omega)])
 have hl:aI jY (l,l,(0:Int),())=_:=hl;unfold qa;rw [aq (rfl:((List.length l:Nat):Int)=((List.length l:Nat):Int)),hl];rfl
theorem NX (l:List sf) (h:l.length≤1048576) (he:∀e∈l,NI e):vt l l=some (true,()):=by
 have hl:=bP (round:=kH) (e:=.inl ()) l.length (fun k=>(l,l,((k:Nat):Int),())) (by
   simp only [kH,uH,aJ,cond_false]) (fun k hk=>by
   have hs:=he _ (List.getElem_mem hk);simp only [kH,uH,aD hk,au,cond_true,cond_false,aC,List.getElem?_eq_getElem hk,Option.bind_some,decide_true,Dl,Bool.and_self,Bool.not_true,J9 _ (Nat.le_trans hs.ring (by decide)),J9 _ (Nat.le_trans hs.C8 (by decide)),aH (show k<4611686018427387904 by omega)])
 have hl:aI kH (l,l,(0:Int),())=_:=hl;unfold vt;rw [aq (rfl:((List.length l:Nat):Int)=((List.length l:Nat):Int)),hl];rfl
theorem Sk {n:Nat} {w:dj} (q:gY n w) (hn:n≤89) {rs:od} (h1:w.1=rs) (hv:Fh rs) {ds:List w6} (hl:ds.length≤89) {R S:Int→Nat} (hN:qL ds R S w) :
  aI js (rs,ds,w.1,w.2.1,w.2.2.1,w.2.2.2.1,Db w.2.2.2.1 0,(0:Int),())=some (.inl (w.1,w.2.1,w.2.2.1,w.2.2.2.1,())):=by
 have aob:=q.num;have hf:=hv.E8;have l1:=bP (round:=js) (e:=.inl (w.1,w.2.1,w.2.2.1,w.2.2.2.1,())) w.2.2.2.1.length (fun i=>(rs,ds,w.1,w.2.1,w.2.2.1,w.2.2.2.1,Db w.2.2.2.1 i,((i:Nat):Int),())) (by
  simp only [js,bz,uJ,bF,dz,aJ,cond_false]) (fun i hi=>by
  obtain ⟨ms,⟨k,hk,k1,k2,k3⟩,hm,hs⟩:=hN.num.each _ (List.getElem_mem hi);have Wq:=hN.num.at hi;have hk:k<rs.length:=by rw [←h1];exact hk
  have k2:(rs[k]).2.1=ms:=by subst h1;exact k2
  have aoq:k+1<10:=by omega
  have hc:k+1<(Db w.2.2.2.1 i).length:=by rw [CJ];exact aoq
  have RX:=J8 w.2.2.2.1 i aoq;have hlen:((w.2.2.2.1.take i).filter fun e=>decide (e.2.1=((k+1:Nat):Int))).length≤i:=by
   refine Nat.le_trans (List.length_filter_le _ _) ?_;rw [List.length_take];omega
  rw [k3] at Wq;have aor:=ZX rs ds w ((Db w.2.2.2.1 i).set (k+1) (IntKind.i64.wrap ((w.2.2.2.1[i]).2.2.2.1+1),())) ((i:Nat):Int) (w.2.2.2.1[i]) hs (by omega);have aos:=Wg w.2.2.2.1 hi k3 (IntKind.i64.wrap ((w.2.2.2.1[i]).2.2.2.1+1)) (by rw [Wq,fj (by omega) (by omega)];omega);have Hf:=aop ms (by rw [←k2];have:=(hv.each k hk).2.1.len;omega) _ hm;simp only [js,bz,uJ,bF,dz,aD hi,au,cond_true,aC,cw hi,List.getElem?_eq_getElem hi,Option.bind_some,aH (show i<4611686018427387904 by omega),k3,ak (show ¬((k+1:Nat):Int)<1 by omega),ak (show ¬((List.length rs:Nat):Int)<((k+1:Nat):Int) by omega),cond_false,cw hc,RX,aq Wq,Bool.not_true,ee (show k<1000 by omega),List.getElem?_eq_getElem hk,k2,Hf];rw [k3,aos] at aor;simp only [aos];rw [aor];simp only [bU,Option.bind_some,Bool.not_true,cond_false,aH (show i<4611686018427387904 by omega)])
 exact l1
theorem Wh {n:Nat} {w:dj} (q:gY n w) (hn:n≤89):aI kI (w.1,w.2.1,w.2.2.1,w.2.2.2.1,(0:Int),())=some (.inl (w.1,w.2.1,w.2.2.1,w.2.2.2.1,())):=by
 have h5:=q.ya;have l1:=bP (round:=kI) (e:=.inl (w.1,w.2.1,w.2.2.1,w.2.2.2.1,())) w.2.1.length (fun i=>(w.1,w.2.1,w.2.2.1,w.2.2.2.1,((i:Nat):Int),())) (by
  simp only [kI,ax,uK,aA,aJ,cond_false]) (fun i hi=>by
  obtain ⟨hd,_⟩:=q.pV i hi;have hW:=hd.small (by omega);have aAl:=hd.log;have e1:du (w.2.1[i]).1 (w.2.1[i]).2.1 (w.2.1[i]).2.2.1 (w.2.1[i]).2.2.2.1 (w.2.1[i]).2.2.2.2.1 (w.2.1[i]).q.1 (w.2.1[i]).q.2.1 (w.2.1[i]).q.2.2.1 (w.2.1[i]).q.2.2.2.1 (w.2.1[i]).q.2.2.2.2.1 (w.2.1[i]).q.q.1 (w.2.1[i]).q.q.2.1 (w.2.1[i]).q.q.2.2.1 (w.2.1[i]).q.q.2.2.2.1 (w.2.1[i]).q.q.2.2.2.2.1 (w.2.1[i]).q.q.q.1 (w.2.1[i]).q.q.q.2.1 (w.2.1[i]).q.q.q.2.2.1 (w.2.1[i]).q.q.q.2.2.2.1 (w.2.1[i]).q.q.q.2.2.2.2.1 (w.2.1[i]).q.q.q.q.1 (w.2.1[i]).q.q.q.q.2.1 (w.2.1[i]).q.q.q.q.2.2.1 (w.2.1[i]).q.q.q.q.2.2.2.1=some (true,()):=by rw [(pR _ hW).2.1,(pR _ hW).2.2.2 hd.q]
  have e2:qH w.1 w.2.1 w.2.2.1 w.2.2.2.1 ((i+1:Nat):Int)=some ((w.2.1[i]).q.q.q.q.2.2.2.1,()):=by
   unfold nj at hW;unfold qH;simp only [qI,aq (show (1:Int)≤((i+1:Nat):Int) by omega),aq (show ((i+1:Nat):Int)≤((List.length w.2.1:Nat):Int) by omega),Bool.and_self,Option.bind_some,Bool.not_true,cond_false,ee (show i<1000 by omega),au,cond_true,aC,List.getElem?_eq_getElem hi,uL (w.2.1[i]).q.q.q.q.2.2.2.1 (by omega)]
  have e3:=NX (w.2.1[i]).q.q.q.q.2.2.2.1 (by omega) hd.Zz;simp only [kI,ax,uK,aA,aD hi,au,cond_true,aC,List.getElem?_eq_getElem hi,Option.bind_some,aH (show i<4611686018427387904 by omega),e1,Bool.not_true,cond_false,e2,e3])
 exact l1
theorem Wi (code:List (Int×Unit)):Ag code=some (true,()):=by
 unfold Ag IL;delta ax aF
 by_cases hb:(1048576:Int)<((List.length code:Nat):Int)
 ·rw [aq hb];rfl
 rw [ak hb];have hc:code.length≤1048576:=by omega
 obtain ⟨s0,e0⟩:=aiz code hc;obtain ⟨rs,ds,a',s',e1,hv,hl,he,_⟩:=ZQ code 0 s0 ⟨by omega,by omega,hc⟩ hc;obtain ⟨w,xI,e2,q,h1,R,S,hN⟩:=awm hv ds hl he;have h5:=q.ya;have l1:=Sk q hl h1 hv hl hN;have l2:=Wh q hl;have l1:aI js (rs,ds,w.1,w.2.1,w.2.2.1,w.2.2.2.1,[((1:Int),()),(1,()),(1,()),(1,()),(1,()),(1,()),(1,()),(1,()),(1,()),(1,())],(0:Int),())=_:=l1;have e9:qH w.1 w.2.1 w.2.2.1 w.2.2.2.1 9=some ([],()):=by
  unfold qH;simp only [qI,aq (show (1:Int)≤9 by omega),ak (show ¬(9:Int)≤((List.length w.2.1:Nat):Int) by omega),Bool.and_false,Option.bind_some,Bool.not_false,cond_true]
 simp only [cond_false,xX,e0,e1,Option.bind_some,e2,Bool.not_true,aq (show ((List.length w.2.1:Nat):Int)=5 by omega),l1,bU,l2,e9];rfl
end Go.TM
