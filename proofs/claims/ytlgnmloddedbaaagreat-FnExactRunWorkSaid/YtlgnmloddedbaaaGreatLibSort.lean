/- slices.Sort and slices.Compact at whole numbers, of the kit's library of contracts, as functions of the tree machine. -/
import Derived.Test.YtlgnmloddedbaaaGreatLibDel
import Derived.Shelf.Sort.Plain
import Derived.Shelf.Slices.In.SortNone
import Derived.Shelf.Slices.In.CompactI
namespace Go.TM
open Go Go.RowKit Go.Proofs Go.Shelf Go.Sort
abbrev iN:RT:=.cons (.int .i64) .nil
def bm (xs:List (Int×Unit)):List Int:=xs.map (·.1)
def aW (zs:List Int):List (Int×Unit):=zs.map fun z=>(z,())
theorem cf (zs:List Int):(aW zs).length=zs.length:=List.length_map ..
theorem jc (xs:List (Int×Unit)):(bm xs).length=xs.length:=List.length_map ..
theorem Lk (xs:List (Int×Unit)) (j:Nat) (h:j<(bm xs).length):(bm xs)[j]=(xs[j]'(by rw [jc] at h;exact h)).1:=List.getElem_map ..
theorem Ll (zs:List Int) (j:Nat) (h:j<(aW zs).length):(aW zs)[j]=(zs[j]'(by rw [cf] at h;exact h),()):=List.getElem_map ..
theorem EC {w:World} {ok:Nat→Prop} {b off:Nat} {cur:Array Value} {ty:TypeId} {xs:List (aw iN)} (hb:w.heap[b]?=some (.cells cur ty (0,0))) (hx:∀i x,xs[i]?=some x→cI w ok iN b (off+i*iN.width) x) :
  Holds (Value.int .i64) w b off (bm xs).toArray:=by
 intro j hj;have SN:j<(bm xs).length:=hj;have hlen:(bm xs).length=List.length (α:=aw iN) xs:=jc xs;have JK:j<List.length (α:=aw iN) xs:=by omega
 have h1:cI w ok (.cons (.int .i64) .nil) b (off+j*iN.width) (xs[j]'JK):=hx j _ (List.getElem?_eq_getElem JK);unfold cI at h1;obtain ⟨⟨v,h2,h3⟩,_⟩:=h1;have h3:=rh.1 h3;subst h3;have e:off+j*iN.width=off+j:=by show off+j*1=off+j;omega
 rw [e] at h2;refine ⟨?_,?_⟩
 ·rw [h2,getElem!_pos (bm xs).toArray j hj];exact congrArg (fun z=>some (Value.int .i64 z)) (Lk xs j SN).symm
 ·unfold World.frozen?;simp only [hb];simp
theorem za {w:World} {n:Nat} {os:Array Obj} {b off:Nat} {cur:Array Value} {ty:TypeId} (hb:w.heap[b]?=some (.cells cur ty (0,0))) (zs:List Int) :
  (grow (putRow (Value.int .i64) (Sort.ahead w n) b off zs.toArray) os).heap[b]?=some (.cells (_root_.Go.Sort.putCells (Value.int .i64) off zs.toArray cur) ty (0,0)):=by
 have bQ:b<w.heap.size:=(Array.getElem?_eq_some_iff.1 hb).1;show (w.heap.modify b (onCells _)++os)[b]?=_;rw [Array.getElem?_append_left (by simpa using bQ),Array.getElem?_modify,if_pos rfl,hb];rfl
theorem Lm {w:World} {n:Nat} {os:Array Obj} {b off:Nat} (zs:List Int) {k:Nat} (hk:k<w.heap.size) (eQ:k≠b) :
  (grow (putRow (Value.int .i64) (Sort.ahead w n) b off zs.toArray) os).heap[k]?=w.heap[k]?:=by
 show (w.heap.modify b (onCells _)++os)[k]?=_;rw [Array.getElem?_append_left (by simpa using hk),Array.getElem?_modify,if_neg (Ne.symm eQ)]
theorem xN {w:World} {n:Nat} {os:Array Obj} {b off:Nat} (zs:List Int):w.heap.size≤(grow (putRow (Value.int .i64) (Sort.ahead w n) b off zs.toArray) os).heap.size:=by
 show w.heap.size≤(w.heap.modify b (onCells _)++os).size;rw [Array.size_append,Array.size_modify];omega
theorem JL {c:Cz} {w:World} {mu:Mu} {n:Nat} {os:Array Obj} {b off:Nat} (hH:Handed c w mu) (hm:mu.m b) (zs:List Int):CF w mu c (grow (putRow (Value.int .i64) (Sort.ahead w n) b off zs.toArray) os):=
 ⟨fun b' l mj=>⟨Nat.lt_of_lt_of_le (hH.lt b' l mj) (xN zs),(hH.lb b' l mj).imp id fun hh=>.inr ((hH.m b').2 ⟨l,mj,hh⟩)⟩,fun b' _ mj=>.inr ((hH.ok b').2 mj),⟨rfl,rfl,rfl,xN zs⟩,fun k hk hkm=>Lm zs hk (fun e=>hkm (e▸hm)),fun b' l mj=>⟨Nat.lt_of_lt_of_le (hH.rs b' l mj).1 (xN zs),.inr (.inr (hH.rs b' l mj).2)⟩⟩
theorem GK {w:World} {ok:Nat→Prop} {n:Nat} {os:Array Obj} {b off:Nat} {cur:Array Value} {ty:TypeId} (hb:w.heap[b]?=some (.cells cur ty (0,0))) (zs:List Int) (hs:off+zs.length≤cur.size) {ys:List Int} (hy:ys <+: zs) :
  ∀i (x:aw iN),(show List (aw iN) from aW ys)[i]?=some x→cI (grow (putRow (Value.int .i64) (Sort.ahead w n) b off zs.toArray) os) ok iN b (off+i*iN.width) x:=by
 intro i x hi;have MH:i<(aW ys).length:=(List.getElem?_eq_some_iff.1 hi).1;have hil:i<ys.length:=by rw [cf] at MH;exact MH
 have hiz:i<zs.length:=Nat.lt_of_lt_of_le hil hy.length_le;have hx:(aW ys)[i]=x:=(List.getElem?_eq_some_iff.1 hi).2;have KS:x.1=ys[i]:=by
  rw [←hx];exact congrArg Prod.fst (Ll ys i MH)
 have hyz:ys[i]=zs[i]:=by
  obtain ⟨t,rfl⟩:=hy;exact (List.getElem_append_left hil).symm
 have e:off+i*iN.width=off+i:=by show off+i*1=off+i;omega
 rw [e];show cI _ ok (.cons (.int .i64) .nil) b (off+i) x;unfold cI;refine ⟨⟨.int .i64 ys[i],?_,rh.2 (congrArg (Value.int .i64) KS.symm)⟩,by unfold cI;trivial⟩;unfold World.cell?;simp only [za hb zs];have bQ:off+i<cur.size:=by omega
 simp only [_root_.Go.Sort.putCells,Array.getElem?_mapIdx,Array.getElem?_eq_getElem bQ,Option.map_some];rw [if_neg (by simp),Option.some.injEq,if_pos ⟨by omega,by simp;omega⟩,show off+i-off=i by omega,getElem!_pos _ i (by simpa using hiz)];simp [hyz]
theorem ED {p:AP} {da:List AV} {x:aw (aK ([p].map some))} (h:dY [p] da=some x):∃a,da=[a]∧Gt p .nil a ()=some x:=by
 match da,h with
 | [],h=>cases h
 | [a],h=>exact ⟨a,rfl,h⟩
 |a::b::l,h=>cases h
theorem Ln {p:OP} {t:RT} {os:List OV} {y:aw t} {x:aw (lR [p] t)} (h:cL [p] t os y=some x):∃o z,os=[o]∧qo p o=some z∧x=(z,y):=by
 match os,h with
 | [],h=>cases h
 | [o],h=>
  unfold cL cL at h
  cases hc:qo p o with
  |none=>rw [hc] at h;cases h
  |some z=>
   rw [hc] at h;injection h with h;exact ⟨o,z,rfl,hc,h.symm⟩
 |a::b::l,h=>
  exfalso
  unfold cL cL at h
  cases hc:qo p a<;>rw [hc] at h<;>cases h
def EE (xs:List (Int×Unit)):Option ((List (Int×Unit))×Unit):=bif Nat.ble xs.length lim then some (aW ((bm xs).mergeSort fun x y=>decide (x≤y)),()) else none
theorem Lo {P:Program} {ρ:Ren} (L:Lays.n189 P ρ) {f:Nat} (hf:ρ.f 189=f) (N6:∃fn,P.funcs[f]?=some fn∧(fn.name == "runtime.NumGoroutine")=false∧fn.body.isNone=false) :
  np P f (kO [.io iN] [] (fun x=>EE x.1)):=by
 refine ⟨?_,N6⟩;intro c w mu lc da args A y hH hA hs ho;unfold kO at hs
 cases hx:dY [.io iN] da with
 |none=>rw [hx] at hs;cases hs
 |some x=>
  rw [hx] at hs;simp only [Option.some.injEq] at hs;subst hs;obtain ⟨a0,rfl,hq⟩:=ED hx;clear hx
  cases a0 with
  |val _ _=>cases hq
  |box _=>cases hq
  |bL _=>cases hq
  |io A0=>
   obtain ⟨v,l,ha,hv,hl⟩:=hA;have hl:l=[]:=hl;subst hl;have ha:args = #[v]:=Array.toList_inj.1 ha;subst ha;obtain ⟨r0,o0,pA,UQ⟩:=A0;unfold Gt at hq;obtain ⟨sF,Iw⟩:=aI hq;clear hq;have sF:=Md.iW.1 sF;subst sF
   cases hc:bw iN pA with
   |none=>simp [hc] at Iw
   |some xs=>
    simp only [hc] at Iw;injection Iw with hq;obtain ⟨e,he⟩:=bd hc
    cases e
    have he:xs=pA:=he;rw [he] at hq;subst hq;have Fq:EE pA=some y:=ho;unfold EE at Fq;obtain ⟨hb,Fq⟩:=aI Fq;have Hw:=Nat.le_of_ble_eq_true hb;unfold lim at Hw;injection Fq with Fq;subst Fq;obtain ⟨h1,h2,h3,h4⟩:OwnAt c w (.bK 0 0) (lc 0 0) { r:=iN,own:=o0,xs:=pA } v:=hv;have h3:o0=true:=h3;subst h3;have M6:((bm pA).mergeSort fun x y=>decide (x≤y)).length=pA.length:=by rw [List.length_mergeSort];exact jc pA
    have fin:∀(w':World),CF w mu c w'→OwnAt c w' (.bK 0 0) (lc 0 0) { r:=iN,own:=true,xs:=aW ((bm pA).mergeSort fun x y=>decide (x≤y)) } v→
      ∃v',Ending.returned (.tuple #[])=.returned v'∧∃c',CF w mu c' w'∧qm c' w' [] v'∧gI c' w' lc 0 [.io { r:=iN,own:=true,xs:=pA }] [v] [.io { r:=iN,own:=true,xs:=aW ((bm pA).mergeSort fun x y=>decide (x≤y)) }]:=
     fun w' Az ec=>⟨_,rfl,c,Az,.inr ⟨by simp,#[],rfl,rfl⟩,_,_,rfl,rfl,(cf _).trans M6,ec,rfl⟩
    have JM:CF w mu c w:=⟨fun b l hb=>⟨hH.lt b l hb,(hH.lb b l hb).imp id fun hh=>.inr ((hH.m b).2 ⟨l,hb,hh⟩)⟩,fun b _ hb=>.inr ((hH.ok b).2 hb),⟨rfl,rfl,rfl,Nat.le_refl _⟩,fun _ _ _=>rfl,fun b l hb=>⟨(hH.rs b l hb).1,.inr (.inr (hH.rs b l hb).2)⟩⟩
    by_cases eQ:pA=[]
    ·-- nothing to sort
     subst eQ;have hz:∃a cp,v=.slice a 0 cp:=by
      unfold fm at h2
      split at h2
      ·exact ⟨none,0,h2.1⟩
      ·obtain ⟨a,cp,hv,_⟩:=h2;exact ⟨some a,cp,hv⟩
     obtain ⟨a,cp,rfl⟩:=hz;have la:=Any.slices_Sort_int_none L a cp w;rw [hf] at la;refine la.mono fun e w' ⟨he,hw⟩ => ?_
     subst he;subst hw;refine fin w' JM ?_;have key:∀ys:List (aw iN),ys=[]→OwnAt c w' (.bK 0 0) (lc 0 0) { r:=iN,own:=true,xs:=ys } (.slice a 0 cp):=by
      intro ys e;subst e;exact ⟨h1,h2,rfl,h4⟩
     exact key _ (List.length_eq_zero_iff.1 ((cf _).trans M6))
    ·generalize gH:lc 0 0=loc at *
     cases loc with
     |nil=>exact absurd h4 eQ
     |«at» b off cap=>
      obtain ⟨g1,g2,⟨cur,ty,g3,g4⟩,g5⟩:=h4;obtain ⟨a,cp,rfl,k1,k2,k3⟩:=h2;have QL:0<pA.length:=List.length_pos_iff.2 eQ;have k1:pA.length≤cp:=k1;have ha:=k3 (by omega);have ha:a=⟨b,off,none⟩:=ha.trans (by rw [Nat.zero_mul];rfl);subst ha;have bQ:b<w.heap.size:=(Array.getElem?_eq_some_iff.1 g3).1;have jJ:off+pA.length≤cur.size:=by
       have g2:pA.length≤cap:=g2;have g4:off+cap*1≤cur.size:=g4;omega
      have la:=Any.slices_Sort_int L b off cp (bm pA) w (EC g3 ((bh.sh rfl).1 g5)) bQ (by rw [jc pA];omega);rw [hf] at la;have hlen:(bm pA).length=pA.length:=jc pA;rw [hlen] at la;refine la.mono fun e w' ⟨he,n,os,hw⟩ => ?_
      subst he;subst hw;have Ob:off+((bm pA).mergeSort fun x y=>decide (x≤y)).length≤cur.size:=by rw [M6];exact jJ
      have hm:mu.m b:=(hH.m b).2 ⟨_,g1,rfl⟩;refine fin _ (JL hH hm _) ?_;have JN:(aW ((bm pA).mergeSort fun x y=>decide (x≤y))).length=pA.length:=(cf _).trans M6;refine ⟨h1,⟨_,cp,congrArg (fun n=>Value.slice (some ⟨b,off,none⟩) n cp) JN.symm,Nat.le_trans (Nat.le_of_eq JN) k1,k2,k3⟩,rfl,g1,?_,⟨_,ty,za g3 _,?_⟩,(bh.sh rfl).2 (GK g3 _ Ob (List.prefix_refl _))⟩
      ·exact Nat.le_trans (Nat.le_of_eq JN) g2
      ·show off+cap*1≤_;simp only [_root_.Go.Sort.putCells,Array.size_mapIdx];exact g4
def nu (xs:List (Int×Unit)):Option ((List (Int×Unit))×Unit):=bif Nat.ble xs.length lim then some (aW (Lib.compact (bm xs)),()) else none
theorem JO (zs:List Int):(Lib.compact zs).length≤zs.length:=by
 unfold Lib.compact Lib.compactUpTo;rw [List.length_map];exact Nat.le_trans (List.length_filter_le _ _) (by simp)
def Cz.one (c:Cz) (b:Nat) (l:Lb):Cz:={ c with own:=fun b'=>if b'=b then some l else c.own b' }
theorem CF.one {c:Cz} {w w':World} {mu:Mu} {b:Nat} {l:Lb} (h:CF w mu c w') (hm:mu.m b) (hb:b<w'.heap.size):CF w mu (c.one b l) w':=by
 refine ⟨fun b' l' h' => ?_,fun b' bQ h' => ?_,h.kept,h.old,h.lS⟩
 ·have h':(if b'=b then some l else c.own b')=some l':=h'
  by_cases e:b'=b
  ·subst e;exact ⟨hb,.inr (.inr hm)⟩
  ·rw [if_neg e] at h';exact h.owned b' l' h'
 ·have h':(if b'=b then some l else c.own b')=none:=h'
  by_cases e:b'=b
  ·rw [if_pos e] at h';cases h'
  ·rw [if_neg e] at h';exact h.free b' bQ h'
theorem FF {P:Program} {ρ:Ren} (L:Lays2.n20 P ρ) {f:Nat} (hf:ρ.f 20=f) (N6:∃fn,P.funcs[f]?=some fn∧(fn.name == "runtime.NumGoroutine")=false∧fn.body.isNone=false) :
  np P f (kO [.val false [.own iN]] [{ src:=.tmp 0,agg:=false,ps:=[.own iN] }] (fun x=>nu x.1)):=by
 refine ⟨?_,N6⟩;intro c w mu lc da args A y hH hA hs ho;unfold kO at hs
 cases hx:dY [.val false [.own iN]] da with
 |none=>rw [hx] at hs;cases hs
 |some x=>
  rw [hx] at hs;simp only [Option.some.injEq] at hs;subst hs;have JM:CF w mu c w:=⟨fun b l hb=>⟨hH.lt b l hb,(hH.lb b l hb).imp id fun hh=>.inr ((hH.m b).2 ⟨l,hb,hh⟩)⟩,fun b _ hb=>.inr ((hH.ok b).2 hb),⟨rfl,rfl,rfl,Nat.le_refl _⟩,fun _ _ _=>rfl,fun b l hb=>⟨(hH.rs b l hb).1,.inr (.inr (hH.rs b l hb).2)⟩⟩;have empty:∀a cp,Calls P f #[.slice a 0 cp] w fun e w'=>e=.returned (.slice a 0 cp)∧w'=w:=fun a cp=>by
   have la:=calls_of_every_depth fun D=>AnyS.slices_Compact_int_empty_in L D a cp w
   rw [hf] at la;exact la
  have ans:∀(os:List OV) (v:Value) (c':Cz) (w':World) (loc:Loc) (u:Value) (ys:List (aw iN)),CF w mu c' w'→OwnAt c' w' (.eF 0) loc { r:=iN,own:=true,xs:=ys } u→
    ∃v',Ending.returned u=.returned v'∧∃c',CF w mu c' w'∧qm c' w' [.one (.own { r:=iN,own:=true,xs:=ys })] v'∧gI c' w' lc 0 [.val false os] [v] []:=
   fun os v c' w' loc u ys hb ec=>⟨u,rfl,c',hb,.inl ⟨_,rfl,u,[],rfl,⟨u,[],rfl,⟨loc,ec⟩,rfl⟩,rfl⟩,rfl⟩
  obtain ⟨a0,rfl,hq⟩:=ED hx;clear hx
  cases a0 with
  |io _=>cases hq
  |box _=>cases hq
  |bL _=>cases hq
  |val ag os=>
  cases ag with
  |true=>cases hq
  |false=>
  obtain ⟨o,z,rfl,hz,Aj⟩:=Ln hq;clear hq
  cases o with
  |int _ _=>cases hz
  |bool _=>cases hz
  |str _=>cases hz
  |shr _ _=>cases hz
  |lC _ _=>cases hz
  |fn _ _ _=>cases hz
  |dN=>
   obtain ⟨v,l,ha,hv,hl⟩:=hA;have hl:l=[]:=hl;subst hl;have ha:args = #[v]:=Array.toList_inj.1 ha;subst ha;obtain ⟨l',nW,_⟩:=hv;injection nW with nW _;subst nW;injection hz with hz;subst hz;subst Aj;have Fq:nu []=some y:=ho;have hy:y=([],()):=by
    have:nu []=some ([],()):=rfl;rw [this] at Fq;injection Fq with Fq;exact Fq.symm
   subst hy;refine (empty none 0).mono fun e w' ⟨he,hw⟩ => ?_
   subst he;subst hw;exact ans _ _ c _ .nil _ [] JM ⟨rfl,⟨rfl,rfl⟩,rfl,rfl⟩
  |own A0=>
   obtain ⟨v,l,ha,hv,hl⟩:=hA;have hl:l=[]:=hl;subst hl;have ha:args = #[v]:=Array.toList_inj.1 ha;subst ha;obtain ⟨v1,l',nW,⟨loc,K0⟩,_⟩:=hv;injection nW with nW _;subst nW;obtain ⟨r0,o0,pA,UQ⟩:=A0;have hz:(bif UQ.is .sh then bw iN pA else none)=some z:=hz;obtain ⟨sF,hz⟩:=aI hz;have sF:=Md.iW.1 sF;subst sF
   cases hc:bw iN pA with
   |none=>rw [hc] at hz;cases hz
   |some xs=>
    have hzx:xs=z:=Option.some.inj (hc.symm.trans hz);obtain ⟨e,he⟩:=bd hc
    cases e
    have he:xs=pA:=he;rw [←hzx,he] at Aj;subst Aj;have Fq:nu pA=some y:=ho;unfold nu at Fq;obtain ⟨hb,Fq⟩:=aI Fq;have Hw:=Nat.le_of_ble_eq_true hb;unfold lim at Hw;injection Fq with Fq;subst Fq;obtain ⟨h1,h2,h3,h4⟩:=K0
    by_cases eQ:pA=[]
    ·subst eQ
     cases loc with
     |nil=>
      obtain ⟨h2,_⟩:=h2;subst h2;refine (empty none 0).mono fun e w' ⟨he,hw⟩ => ?_
      subst he;subst hw;exact ans _ _ c _ .nil _ [] JM ⟨rfl,⟨rfl,rfl⟩,rfl,rfl⟩
     |«at» b off cap=>
      obtain ⟨g1,g2,⟨cur,ty,g3,g4⟩,g5⟩:=h4;obtain ⟨a,cp,hv3,k1,k2,k3⟩:=h2;have hv3:v=.slice (some a) 0 cp:=hv3;subst hv3;have bQ:b<w.heap.size:=(Array.getElem?_eq_some_iff.1 g3).1;refine (empty (some a) cp).mono fun e w' ⟨he,hw⟩ => ?_
      subst he;subst hw;exact ans _ _ (c.one b (.eF 0)) _ (.at b off cap) _ [] (JM.one ((hH.m b).2 ⟨_,g1,rfl⟩) bQ) ⟨rfl,⟨a,cp,rfl,k1,k2,k3⟩,rfl,if_pos rfl,Nat.zero_le _,⟨cur,ty,g3,g4⟩,(bh.sh rfl).2 fun i x hi=>by simp at hi⟩
    ·cases loc with
     |nil=>exact absurd h4 eQ
     |«at» b off cap=>
      obtain ⟨g1,g2,⟨cur,ty,g3,g4⟩,g5⟩:=h4;obtain ⟨a,cp,hv3,k1,k2,k3⟩:=h2;subst hv3;have QL:0<pA.length:=List.length_pos_iff.2 eQ;have k1:pA.length≤cp:=k1;have ha:=k3 (by omega);have ha:a=⟨b,off,none⟩:=ha.trans (by rw [Nat.zero_mul];rfl);subst ha;have bQ:b<w.heap.size:=(Array.getElem?_eq_some_iff.1 g3).1;have jJ:off+pA.length≤cur.size:=by
       have g2:pA.length≤cap:=g2;have g4:off+cap*1≤cur.size:=g4;omega
      have hlen:(bm pA).length=pA.length:=jc pA;have la:=calls_of_every_depth fun D=>AnyS.slices_Compact_int_in L D b off cp (bm pA) w (EC g3 ((bh.sh rfl).1 g5)) (Nat.le_trans (Nat.le_of_eq (jc pA)) (Nat.le_trans Hw (by decide))) (Nat.le_trans (Nat.le_of_eq (jc pA)) k1)
      rw [hf,hlen] at la;have l9:=JO (bm pA);rw [hlen] at l9;refine la.mono fun e w' ⟨he,q,hw⟩ => ?_
      subst he;rw [←grow_empty (putRow _ _ _ _ _)] at hw;subst hw;have hm:mu.m b:=(hH.m b).2 ⟨_,g1,rfl⟩;have Ob:off+(Lib.compact (bm pA)++List.replicate (pA.length-(Lib.compact (bm pA)).length) 0).length≤cur.size:=by
       rw [List.length_append,List.length_replicate];omega
      have Az:CF w mu c (grow (putRow (Value.int .i64) (Sort.ahead w q) b off (Lib.compact (bm pA)++List.replicate (pA.length-(Lib.compact (bm pA)).length) 0).toArray) #[]):=JL hH hm _;refine ans _ _ (c.one b (.eF 0)) _ (.at b off cap) _ _ (Az.one hm (Nat.lt_of_lt_of_le bQ (xN _))) ⟨rfl,⟨_,cp,congrArg (fun n=>Value.slice (some ⟨b,off,none⟩) n cp) (cf _).symm,Nat.le_trans (Nat.le_of_eq (cf _)) (Nat.le_trans l9 k1),k2,k3⟩,rfl,if_pos rfl,?_,⟨_,ty,za g3 _,?_⟩,GK g3 _ Ob (List.prefix_append _ _)⟩
      ·exact Nat.le_trans (Nat.le_of_eq (cf _)) (Nat.le_trans l9 g2)
      ·show off+cap*1≤_;simp only [_root_.Go.Sort.putCells,Array.size_mapIdx];exact g4
end Go.TM
