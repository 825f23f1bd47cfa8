/- slices.Sort and slices.Compact at whole numbers, of the kit's library of contracts, as functions of the tree machine. -/
import Derived.Test.YtlgnmloddedbaaaGreatLibWide
import Derived.Shelf.Sort.Plain
import Derived.Shelf.Slices.In.SortNone
import Derived.Shelf.Slices.In.CompactI
namespace Go.TM
open Go Go.RowKit Go.Proofs Go.Shelf Go.Sort
abbrev iH:RT:=.cons (.int .i64) .nil
def bw (xs:List (Int×Unit)):List Int:=xs.map (·.1)
def aY (zs:List Int):List (Int×Unit):=zs.map fun z=>(z,())
theorem cu (zs:List Int):(aY zs).length=zs.length:=List.length_map ..
theorem iQ (xs:List (Int×Unit)):(bw xs).length=xs.length:=List.length_map ..
theorem Kt (xs:List (Int×Unit)) (j:Nat) (h:j<(bw xs).length):(bw xs)[j]=(xs[j]'(by rw [iQ] at h;exact h)).1:=List.getElem_map ..
theorem Ku (zs:List Int) (j:Nat) (h:j<(aY zs).length):(aY zs)[j]=(zs[j]'(by rw [cu] at h;exact h),()):=List.getElem_map ..
theorem El {w:World} {ok:Nat→Prop} {b off:Nat} {cur:Array Value} {ty:TypeId} {xs:List (aA iH)} (hb:w.heap[b]?=some (.cells cur ty (0,0))) (hx:∀i x,xs[i]?=some x→cE w ok iH b (off+i*iH.width) x) :
  Holds (Value.int .i64) w b off (bw xs).toArray:=by
 intro j hj;have RI:j<(bw xs).length:=hj;have hlen:(bw xs).length=List.length (α:=aA iH) xs:=iQ xs;have Qo:j<List.length (α:=aA iH) xs:=by omega
 have h1:cE w ok (.cons (.int .i64) .nil) b (off+j*iH.width) (xs[j]'Qo):=hx j _ (List.getElem?_eq_getElem Qo);unfold cE at h1;obtain ⟨⟨v,h2,h3⟩,_⟩:=h1;have h3:=ri.1 h3;subst h3;have e:off+j*iH.width=off+j:=by show off+j*1=off+j;omega
 rw [e] at h2;refine ⟨?_,?_⟩
 ·rw [h2,getElem!_pos (bw xs).toArray j hj];exact congrArg (fun z=>some (Value.int .i64 z)) (Kt xs j RI).symm
 ·unfold World.frozen?;simp only [hb];simp
theorem zo {w:World} {n:Nat} {os:Array Obj} {b off:Nat} {cur:Array Value} {ty:TypeId} (hb:w.heap[b]?=some (.cells cur ty (0,0))) (zs:List Int) :
  (grow (putRow (Value.int .i64) (Sort.ahead w n) b off zs.toArray) os).heap[b]?=some (.cells (_root_.Go.Sort.putCells (Value.int .i64) off zs.toArray cur) ty (0,0)):=by
 have cA:b<w.heap.size:=(Array.getElem?_eq_some_iff.1 hb).1;show (w.heap.modify b (onCells _)++os)[b]?=_;rw [Array.getElem?_append_left (by simpa using cA),Array.getElem?_modify,if_pos rfl,hb];rfl
theorem Kv {w:World} {n:Nat} {os:Array Obj} {b off:Nat} (zs:List Int) {k:Nat} (hk:k<w.heap.size) (eH:k≠b) :
  (grow (putRow (Value.int .i64) (Sort.ahead w n) b off zs.toArray) os).heap[k]?=w.heap[k]?:=by
 show (w.heap.modify b (onCells _)++os)[k]?=_;rw [Array.getElem?_append_left (by simpa using hk),Array.getElem?_modify,if_neg (Ne.symm eH)]
theorem x8 {w:World} {n:Nat} {os:Array Obj} {b off:Nat} (zs:List Int):w.heap.size≤(grow (putRow (Value.int .i64) (Sort.ahead w n) b off zs.toArray) os).heap.size:=by
 show w.heap.size≤(w.heap.modify b (onCells _)++os).size;rw [Array.size_append,Array.size_modify];omega
theorem I0 {c:Cz} {w:World} {mu:Mu} {n:Nat} {os:Array Obj} {b off:Nat} (hH:Handed c w mu) (hm:mu.m b) (zs:List Int):Dj w mu c (grow (putRow (Value.int .i64) (Sort.ahead w n) b off zs.toArray) os):=
 ⟨fun b' l mr=>⟨Nat.lt_of_lt_of_le (hH.lt b' l mr) (x8 zs),(hH.lb b' l mr).imp id fun hh=>.inr ((hH.m b').2 ⟨l,mr,hh⟩)⟩,fun b' _ mr=>.inr ((hH.ok b').2 mr),⟨rfl,rfl,rfl,x8 zs⟩,fun k hk hkm=>Kv zs hk (fun e=>hkm (e▸hm)),fun b' l mr=>⟨Nat.lt_of_lt_of_le (hH.rs b' l mr).1 (x8 zs),.inr (.inr (hH.rs b' l mr).2)⟩⟩
theorem Gy {w:World} {ok:Nat→Prop} {n:Nat} {os:Array Obj} {b off:Nat} {cur:Array Value} {ty:TypeId} (hb:w.heap[b]?=some (.cells cur ty (0,0))) (zs:List Int) (hs:off+zs.length≤cur.size) {ys:List Int} (hy:ys <+: zs) :
  ∀i (x:aA iH),(show List (aA iH) from aY ys)[i]?=some x→cE (grow (putRow (Value.int .i64) (Sort.ahead w n) b off zs.toArray) os) ok iH b (off+i*iH.width) x:=by
 intro i x hi;have RD:i<(aY ys).length:=(List.getElem?_eq_some_iff.1 hi).1;have hil:i<ys.length:=by rw [cu] at RD;exact RD
 have hiz:i<zs.length:=Nat.lt_of_lt_of_le hil hy.length_le;have hx:(aY ys)[i]=x:=(List.getElem?_eq_some_iff.1 hi).2;have JY:x.1=ys[i]:=by
  rw [←hx];exact congrArg Prod.fst (Ku ys i RD)
 have hyz:ys[i]=zs[i]:=by
  obtain ⟨t,rfl⟩:=hy;exact (List.getElem_append_left hil).symm
 have e:off+i*iH.width=off+i:=by show off+i*1=off+i;omega
 rw [e];show cE _ ok (.cons (.int .i64) .nil) b (off+i) x;unfold cE;refine ⟨⟨.int .i64 ys[i],?_,ri.2 (congrArg (Value.int .i64) JY.symm)⟩,by unfold cE;trivial⟩;unfold World.cell?;simp only [zo hb zs];have cA:off+i<cur.size:=by omega
 simp only [_root_.Go.Sort.putCells,Array.getElem?_mapIdx,Array.getElem?_eq_getElem cA,Option.map_some];rw [if_neg (by simp),Option.some.injEq,if_pos ⟨by omega,by simp;omega⟩,show off+i-off=i by omega,getElem!_pos _ i (by simpa using hiz)];simp [hyz]
theorem Em {p:AP} {dX:List AV} {x:aA (aN ([p].map some))} (h:fm [p] dX=some x):∃a,dX=[a]∧Gi p .nil a ()=some x:=by
 match dX,h with
 | [],h=>cases h
 | [a],h=>exact ⟨a,rfl,h⟩
 |a::b::l,h=>cases h
theorem Kw {p:OP} {t:RT} {os:List OV} {y:aA t} {x:aA (mb [p] t)} (h:dE [p] t os y=some x):∃o z,os=[o]∧rJ p o=some z∧x=(z,y):=by
 match os,h with
 | [],h=>cases h
 | [o],h=>
  unfold dE dE at h
  cases hc:rJ p o with
  |none=>rw [hc] at h;cases h
  |some z=>
   rw [hc] at h;injection h with h;exact ⟨o,z,rfl,hc,h.symm⟩
 |a::b::l,h=>
  exfalso
  unfold dE dE at h
  cases hc:rJ p a<;>rw [hc] at h<;>cases h
def En (xs:List (Int×Unit)):Option ((List (Int×Unit))×Unit):=bif Nat.ble xs.length lim then some (aY ((bw xs).mergeSort fun x y=>decide (x≤y)),()) else none
theorem Kx {P:Program} {ρ:Ren} (L:Lays.n189 P ρ) {f:Nat} (hf:ρ.f 189=f) (M7:∃fn,P.funcs[f]?=some fn∧(fn.name == "runtime.NumGoroutine")=false∧fn.body.isNone=false) :
  rL P f (nj [.io iH] [] (fun x=>En x.1)):=by
 refine ⟨?_,M7⟩;intro c w mu lc dX args A y hH hA hs ho;unfold nj at hs
 cases hx:fm [.io iH] dX with
 |none=>rw [hx] at hs;cases hs
 |some x=>
  rw [hx] at hs;simp only [Option.some.injEq] at hs;subst hs;obtain ⟨a0,rfl,hq⟩:=Em hx;clear hx
  cases a0 with
  |val _ _=>cases hq
  |box _=>cases hq
  |bR _=>cases hq
  |io A0=>
   obtain ⟨v,l,ha,hv,hl⟩:=hA;have hl:l=[]:=hl;subst hl;have ha:args = #[v]:=Array.toList_inj.1 ha;subst ha;obtain ⟨r0,o0,pN,TL⟩:=A0;unfold Gi at hq;obtain ⟨sM,JZ⟩:=aK hq;clear hq;have sM:=Md.je.1 sM;subst sM
   cases hc:bH iH pN with
   |none=>simp [hc] at JZ
   |some xs=>
    simp only [hc] at JZ;injection JZ with hq;obtain ⟨e,he⟩:=bm hc
    cases e
    have he:xs=pN:=he;rw [he] at hq;subst hq;have Fg:En pN=some y:=ho;unfold En at Fg;obtain ⟨hb,Fg⟩:=aK Fg;have Hc:=Nat.le_of_ble_eq_true hb;unfold lim at Hc;injection Fg with Fg;subst Fg;obtain ⟨h1,h2,h3,h4⟩:OwnAt c w (.cf 0 0) (lc 0 0) { r:=iH,own:=o0,xs:=pN } v:=hv;have h3:o0=true:=h3;subst h3;have L3:((bw pN).mergeSort fun x y=>decide (x≤y)).length=pN.length:=by rw [List.length_mergeSort];exact iQ pN
    have fin:∀(w':World),Dj w mu c w'→OwnAt c w' (.cf 0 0) (lc 0 0) { r:=iH,own:=true,xs:=aY ((bw pN).mergeSort fun x y=>decide (x≤y)) } v→
      ∃v',Ending.returned (.tuple #[])=.returned v'∧∃c',Dj w mu c' w'∧tX c' w' [] v'∧jk c' w' lc 0 [.io { r:=iH,own:=true,xs:=pN }] [v] [.io { r:=iH,own:=true,xs:=aY ((bw pN).mergeSort fun x y=>decide (x≤y)) }]:=
     fun w' AI dR=>⟨_,rfl,c,AI,.inr ⟨by simp,#[],rfl,rfl⟩,_,_,rfl,rfl,(cu _).trans L3,dR,rfl⟩
    have I1:Dj w mu c w:=⟨fun b l hb=>⟨hH.lt b l hb,(hH.lb b l hb).imp id fun hh=>.inr ((hH.m b).2 ⟨l,hb,hh⟩)⟩,fun b _ hb=>.inr ((hH.ok b).2 hb),⟨rfl,rfl,rfl,Nat.le_refl _⟩,fun _ _ _=>rfl,fun b l hb=>⟨(hH.rs b l hb).1,.inr (.inr (hH.rs b l hb).2)⟩⟩
    by_cases eH:pN=[]
    ·-- nothing to sort
     subst eH;have hz:∃a cp,v=.slice a 0 cp:=by
      unfold fh at h2
      split at h2
      ·exact ⟨none,0,h2.1⟩
      ·obtain ⟨a,cp,hv,_⟩:=h2;exact ⟨some a,cp,hv⟩
     obtain ⟨a,cp,rfl⟩:=hz;have ma:=Any.slices_Sort_int_none L a cp w;rw [hf] at ma;refine ma.mono fun e w' ⟨he,hw⟩ => ?_
     subst he;subst hw;refine fin w' I1 ?_;have key:∀ys:List (aA iH),ys=[]→OwnAt c w' (.cf 0 0) (lc 0 0) { r:=iH,own:=true,xs:=ys } (.slice a 0 cp):=by
      intro ys e;subst e;exact ⟨h1,h2,rfl,h4⟩
     exact key _ (List.length_eq_zero_iff.1 ((cu _).trans L3))
    ·generalize gN:lc 0 0=loc at *
     cases loc with
     |nil=>exact absurd h4 eH
     |«at» b off cap=>
      obtain ⟨g1,g2,⟨cur,ty,g3,g4⟩,g5⟩:=h4;obtain ⟨a,cp,rfl,k1,k2,k3⟩:=h2;have PU:0<pN.length:=List.length_pos_iff.2 eH;have k1:pN.length≤cp:=k1;have ha:=k3 (by omega);have ha:a=⟨b,off,none⟩:=ha.trans (by rw [Nat.zero_mul];rfl);subst ha;have cA:b<w.heap.size:=(Array.getElem?_eq_some_iff.1 g3).1;have jP:off+pN.length≤cur.size:=by
       have g2:pN.length≤cap:=g2;have g4:off+cap*1≤cur.size:=g4;omega
      have ma:=Any.slices_Sort_int L b off cp (bw pN) w (El g3 ((bq.sh rfl).1 g5)) cA (by rw [iQ pN];omega);rw [hf] at ma;have hlen:(bw pN).length=pN.length:=iQ pN;rw [hlen] at ma;refine ma.mono fun e w' ⟨he,n,os,hw⟩ => ?_
      subst he;subst hw;have Sf:off+((bw pN).mergeSort fun x y=>decide (x≤y)).length≤cur.size:=by rw [L3];exact jP
      have hm:mu.m b:=(hH.m b).2 ⟨_,g1,rfl⟩;refine fin _ (I0 hH hm _) ?_;have I2:(aY ((bw pN).mergeSort fun x y=>decide (x≤y))).length=pN.length:=(cu _).trans L3;refine ⟨h1,⟨_,cp,congrArg (fun n=>Value.slice (some ⟨b,off,none⟩) n cp) I2.symm,Nat.le_trans (Nat.le_of_eq I2) k1,k2,k3⟩,rfl,g1,?_,⟨_,ty,zo g3 _,?_⟩,(bq.sh rfl).2 (Gy g3 _ Sf (List.prefix_refl _))⟩
      ·exact Nat.le_trans (Nat.le_of_eq I2) g2
      ·show off+cap*1≤_;simp only [_root_.Go.Sort.putCells,Array.size_mapIdx];exact g4
def np (xs:List (Int×Unit)):Option ((List (Int×Unit))×Unit):=bif Nat.ble xs.length lim then some (aY (Lib.compact (bw xs)),()) else none
theorem I3 (zs:List Int):(Lib.compact zs).length≤zs.length:=by
 unfold Lib.compact Lib.compactUpTo;rw [List.length_map];exact Nat.le_trans (List.length_filter_le _ _) (by simp)
def Cz.one (c:Cz) (b:Nat) (l:Lb):Cz:={ c with own:=fun b'=>if b'=b then some l else c.own b' }
theorem Dj.one {c:Cz} {w w':World} {mu:Mu} {b:Nat} {l:Lb} (h:Dj w mu c w') (hm:mu.m b) (hb:b<w'.heap.size):Dj w mu (c.one b l) w':=by
 refine ⟨fun b' l' h' => ?_,fun b' cA h' => ?_,h.kept,h.old,h.mq⟩
 ·have h':(if b'=b then some l else c.own b')=some l':=h'
  by_cases e:b'=b
  ·subst e;exact ⟨hb,.inr (.inr hm)⟩
  ·rw [if_neg e] at h';exact h.owned b' l' h'
 ·have h':(if b'=b then some l else c.own b')=none:=h'
  by_cases e:b'=b
  ·rw [if_pos e] at h';cases h'
  ·rw [if_neg e] at h';exact h.free b' cA h'
theorem Ft {P:Program} {ρ:Ren} (L:Lays2.n20 P ρ) {f:Nat} (hf:ρ.f 20=f) (M7:∃fn,P.funcs[f]?=some fn∧(fn.name == "runtime.NumGoroutine")=false∧fn.body.isNone=false) :
  rL P f (nj [.val false [.own iH]] [{ src:=.tmp 0,agg:=false,ps:=[.own iH] }] (fun x=>np x.1)):=by
 refine ⟨?_,M7⟩;intro c w mu lc dX args A y hH hA hs ho;unfold nj at hs
 cases hx:fm [.val false [.own iH]] dX with
 |none=>rw [hx] at hs;cases hs
 |some x=>
  rw [hx] at hs;simp only [Option.some.injEq] at hs;subst hs;have I1:Dj w mu c w:=⟨fun b l hb=>⟨hH.lt b l hb,(hH.lb b l hb).imp id fun hh=>.inr ((hH.m b).2 ⟨l,hb,hh⟩)⟩,fun b _ hb=>.inr ((hH.ok b).2 hb),⟨rfl,rfl,rfl,Nat.le_refl _⟩,fun _ _ _=>rfl,fun b l hb=>⟨(hH.rs b l hb).1,.inr (.inr (hH.rs b l hb).2)⟩⟩;have empty:∀a cp,Calls P f #[.slice a 0 cp] w fun e w'=>e=.returned (.slice a 0 cp)∧w'=w:=fun a cp=>by
   have ma:=calls_of_every_depth fun D=>AnyS.slices_Compact_int_empty_in L D a cp w
   rw [hf] at ma;exact ma
  have ans:∀(os:List OV) (v:Value) (c':Cz) (w':World) (loc:Loc) (u:Value) (ys:List (aA iH)),Dj w mu c' w'→OwnAt c' w' (.ja 0) loc { r:=iH,own:=true,xs:=ys } u→
    ∃v',Ending.returned u=.returned v'∧∃c',Dj w mu c' w'∧tX c' w' [.one (.own { r:=iH,own:=true,xs:=ys })] v'∧jk c' w' lc 0 [.val false os] [v] []:=
   fun os v c' w' loc u ys hb dR=>⟨u,rfl,c',hb,.inl ⟨_,rfl,u,[],rfl,⟨u,[],rfl,⟨loc,dR⟩,rfl⟩,rfl⟩,rfl⟩
  obtain ⟨a0,rfl,hq⟩:=Em hx;clear hx
  cases a0 with
  |io _=>cases hq
  |box _=>cases hq
  |bR _=>cases hq
  |val ag os=>
  cases ag with
  |true=>cases hq
  |false=>
  obtain ⟨o,z,rfl,hz,DL⟩:=Kw hq;clear hq
  cases o with
  |int _ _=>cases hz
  |bool _=>cases hz
  |str _=>cases hz
  |shr _ _=>cases hz
  |lL _ _=>cases hz
  |fn _ _ _=>cases hz
  |dO=>
   obtain ⟨v,l,ha,hv,hl⟩:=hA;have hl:l=[]:=hl;subst hl;have ha:args = #[v]:=Array.toList_inj.1 ha;subst ha;obtain ⟨l',nY,_⟩:=hv;injection nY with nY _;subst nY;injection hz with hz;subst hz;subst DL;have Fg:np []=some y:=ho;have hy:y=([],()):=by
    have:np []=some ([],()):=rfl;rw [this] at Fg;injection Fg with Fg;exact Fg.symm
   subst hy;refine (empty none 0).mono fun e w' ⟨he,hw⟩ => ?_
   subst he;subst hw;exact ans _ _ c _ .nil _ [] I1 ⟨rfl,⟨rfl,rfl⟩,rfl,rfl⟩
  |own A0=>
   obtain ⟨v,l,ha,hv,hl⟩:=hA;have hl:l=[]:=hl;subst hl;have ha:args = #[v]:=Array.toList_inj.1 ha;subst ha;obtain ⟨v1,l',nY,⟨loc,J9⟩,_⟩:=hv;injection nY with nY _;subst nY;obtain ⟨r0,o0,pN,TL⟩:=A0;have hz:(bif TL.is .sh then bH iH pN else none)=some z:=hz;obtain ⟨sM,hz⟩:=aK hz;have sM:=Md.je.1 sM;subst sM
   cases hc:bH iH pN with
   |none=>rw [hc] at hz;cases hz
   |some xs=>
    have hzx:xs=z:=Option.some.inj (hc.symm.trans hz);obtain ⟨e,he⟩:=bm hc
    cases e
    have he:xs=pN:=he;rw [←hzx,he] at DL;subst DL;have Fg:np pN=some y:=ho;unfold np at Fg;obtain ⟨hb,Fg⟩:=aK Fg;have Hc:=Nat.le_of_ble_eq_true hb;unfold lim at Hc;injection Fg with Fg;subst Fg;obtain ⟨h1,h2,h3,h4⟩:=J9
    by_cases eH:pN=[]
    ·subst eH
     cases loc with
     |nil=>
      obtain ⟨h2,_⟩:=h2;subst h2;refine (empty none 0).mono fun e w' ⟨he,hw⟩ => ?_
      subst he;subst hw;exact ans _ _ c _ .nil _ [] I1 ⟨rfl,⟨rfl,rfl⟩,rfl,rfl⟩
     |«at» b off cap=>
      obtain ⟨g1,g2,⟨cur,ty,g3,g4⟩,g5⟩:=h4;obtain ⟨a,cp,hv3,k1,k2,k3⟩:=h2;have hv3:v=.slice (some a) 0 cp:=hv3;subst hv3;have cA:b<w.heap.size:=(Array.getElem?_eq_some_iff.1 g3).1;refine (empty (some a) cp).mono fun e w' ⟨he,hw⟩ => ?_
      subst he;subst hw;exact ans _ _ (c.one b (.ja 0)) _ (.at b off cap) _ [] (I1.one ((hH.m b).2 ⟨_,g1,rfl⟩) cA) ⟨rfl,⟨a,cp,rfl,k1,k2,k3⟩,rfl,if_pos rfl,Nat.zero_le _,⟨cur,ty,g3,g4⟩,(bq.sh rfl).2 fun i x hi=>by simp at hi⟩
    ·cases loc with
     |nil=>exact absurd h4 eH
     |«at» b off cap=>
      obtain ⟨g1,g2,⟨cur,ty,g3,g4⟩,g5⟩:=h4;obtain ⟨a,cp,hv3,k1,k2,k3⟩:=h2;subst hv3;have PU:0<pN.length:=List.length_pos_iff.2 eH;have k1:pN.length≤cp:=k1;have ha:=k3 (by omega);have ha:a=⟨b,off,none⟩:=ha.trans (by rw [Nat.zero_mul];rfl);subst ha;have cA:b<w.heap.size:=(Array.getElem?_eq_some_iff.1 g3).1;have jP:off+pN.length≤cur.size:=by
       have g2:pN.length≤cap:=g2;have g4:off+cap*1≤cur.size:=g4;omega
      have hlen:(bw pN).length=pN.length:=iQ pN;have ma:=calls_of_every_depth fun D=>AnyS.slices_Compact_int_in L D b off cp (bw pN) w (El g3 ((bq.sh rfl).1 g5)) (Nat.le_trans (Nat.le_of_eq (iQ pN)) (Nat.le_trans Hc (by decide))) (Nat.le_trans (Nat.le_of_eq (iQ pN)) k1)
      rw [hf,hlen] at ma;have mP:=I3 (bw pN);rw [hlen] at mP;refine ma.mono fun e w' ⟨he,q,hw⟩ => ?_
      subst he;rw [←grow_empty (putRow _ _ _ _ _)] at hw;subst hw;have hm:mu.m b:=(hH.m b).2 ⟨_,g1,rfl⟩;have Sf:off+(Lib.compact (bw pN)++List.replicate (pN.length-(Lib.compact (bw pN)).length) 0).length≤cur.size:=by
       rw [List.length_append,List.length_replicate];omega
      have AI:Dj w mu c (grow (putRow (Value.int .i64) (Sort.ahead w q) b off (Lib.compact (bw pN)++List.replicate (pN.length-(Lib.compact (bw pN)).length) 0).toArray) #[]):=I0 hH hm _;refine ans _ _ (c.one b (.ja 0)) _ (.at b off cap) _ _ (AI.one hm (Nat.lt_of_lt_of_le cA (x8 _))) ⟨rfl,⟨_,cp,congrArg (fun n=>Value.slice (some ⟨b,off,none⟩) n cp) (cu _).symm,Nat.le_trans (Nat.le_of_eq (cu _)) (Nat.le_trans mP k1),k2,k3⟩,rfl,if_pos rfl,?_,⟨_,ty,zo g3 _,?_⟩,Gy g3 _ Sf (List.prefix_append _ _)⟩
      ·exact Nat.le_trans (Nat.le_of_eq (cu _)) (Nat.le_trans mP g2)
      ·show off+cap*1≤_;simp only [_root_.Go.Sort.putCells,Array.size_mapIdx];exact g4
end Go.TM
