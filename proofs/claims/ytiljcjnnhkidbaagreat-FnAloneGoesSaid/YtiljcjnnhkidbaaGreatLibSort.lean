/- slices.Sort and slices.Compact at whole numbers, of the kit's library of contracts, as functions of the tree machine. -/
import Derived.Test.YtiljcjnnhkidbaaGreatLibWide
import Derived.Shelf.Sort.Plain
import Derived.Shelf.Slices.In.SortNone
import Derived.Shelf.Slices.In.CompactI
namespace Go.TM
open Go Go.RowKit Go.Proofs Go.Shelf Go.Sort
abbrev ky:RT:=.cons (.int .i64) .nil
def cm (xs:List (Int×Unit)):List Int:=xs.map (·.1)
def bF (zs:List Int):List (Int×Unit):=zs.map fun z=>(z,())
theorem dS (zs:List Int):(bF zs).length=zs.length:=List.length_map ..
theorem kN (xs:List (Int×Unit)):(cm xs).length=xs.length:=List.length_map ..
theorem PU (xs:List (Int×Unit)) (j:Nat) (h:j<(cm xs).length):(cm xs)[j]=(xs[j]'(by rw [kN] at h;exact h)).1:=List.getElem_map ..
theorem PV (zs:List Int) (j:Nat) (h:j<(bF zs).length):(bF zs)[j]=(zs[j]'(by rw [dS] at h;exact h),()):=List.getElem_map ..
theorem HV {w:World} {ok:Nat→Prop} {b off:Nat} {cur:Array Value} {ty:TypeId} {xs:List (aO ky)} (hb:w.heap[b]?=some (.cells cur ty (0,0))) (hx:∀i x,xs[i]?=some x→fx w ok ky b (off+i*ky.width) x) :
  Holds (Value.int .i64) w b off (cm xs).toArray:=by
 intro j hj;have YX:j<(cm xs).length:=hj;have hlen:(cm xs).length=List.length (α:=aO ky) xs:=kN xs;have V4:j<List.length (α:=aO ky) xs:=by omega
 have h1:fx w ok (.cons (.int .i64) .nil) b (off+j*ky.width) (xs[j]'V4):=hx j _ (List.getElem?_eq_getElem V4);unfold fx at h1;obtain ⟨⟨v,h2,h3⟩,_⟩:=h1;have h3:=yr.1 h3;subst h3;have e:off+j*ky.width=off+j:=by show off+j*1=off+j;omega
 rw [e] at h2;refine ⟨?_,?_⟩
 ·rw [h2,getElem!_pos (cm xs).toArray j hj];exact congrArg (fun z=>some (Value.int .i64 z)) (PU xs j YX).symm
 ·unfold World.frozen?;simp only [hb];simp
theorem Cx {w:World} {n:Nat} {os:Array Obj} {b off:Nat} {cur:Array Value} {ty:TypeId} (hb:w.heap[b]?=some (.cells cur ty (0,0))) (zs:List Int) :
  (grow (putRow (Value.int .i64) (Sort.ahead w n) b off zs.toArray) os).heap[b]?=some (.cells (_root_.Go.Sort.putCells (Value.int .i64) off zs.toArray cur) ty (0,0)):=by
 have dO:b<w.heap.size:=(Array.getElem?_eq_some_iff.1 hb).1;show (w.heap.modify b (onCells _)++os)[b]?=_;rw [Array.getElem?_append_left (by simpa using dO),Array.getElem?_modify,if_pos rfl,hb];rfl
theorem PW {w:World} {n:Nat} {os:Array Obj} {b off:Nat} (zs:List Int) {k:Nat} (hk:k<w.heap.size) (mU:k≠b) :
  (grow (putRow (Value.int .i64) (Sort.ahead w n) b off zs.toArray) os).heap[k]?=w.heap[k]?:=by
 show (w.heap.modify b (onCells _)++os)[k]?=_;rw [Array.getElem?_append_left (by simpa using hk),Array.getElem?_modify,if_neg (Ne.symm mU)]
theorem EZ {w:World} {n:Nat} {os:Array Obj} {b off:Nat} (zs:List Int):w.heap.size≤(grow (putRow (Value.int .i64) (Sort.ahead w n) b off zs.toArray) os).heap.size:=by
 show w.heap.size≤(w.heap.modify b (onCells _)++os).size;rw [Array.size_append,Array.size_modify];omega
theorem NY {c:Cz} {w:World} {mu:Mu} {n:Nat} {os:Array Obj} {b off:Nat} (hH:Handed c w mu) (hm:mu.m b) (zs:List Int):FN w mu c (grow (putRow (Value.int .i64) (Sort.ahead w n) b off zs.toArray) os):=
 ⟨fun b' l uf=>⟨Nat.lt_of_lt_of_le (hH.lt b' l uf) (EZ zs),(hH.lb b' l uf).imp id fun hh=>.inr ((hH.m b').2 ⟨l,uf,hh⟩)⟩,fun b' _ uf=>.inr ((hH.ok b').2 uf),⟨rfl,rfl,rfl,EZ zs⟩,fun k hk hkm=>PW zs hk (fun e=>hkm (e▸hm))⟩
theorem Kz {w:World} {ok:Nat→Prop} {n:Nat} {os:Array Obj} {b off:Nat} {cur:Array Value} {ty:TypeId} (hb:w.heap[b]?=some (.cells cur ty (0,0))) (zs:List Int) (hs:off+zs.length≤cur.size) {ys:List Int} (hy:ys <+: zs) :
  ∀i (x:aO ky),(show List (aO ky) from bF ys)[i]?=some x→fx (grow (putRow (Value.int .i64) (Sort.ahead w n) b off zs.toArray) os) ok ky b (off+i*ky.width) x:=by
 intro i x hi;have SD:i<(bF ys).length:=(List.getElem?_eq_some_iff.1 hi).1;have hil:i<ys.length:=by rw [dS] at SD;exact SD
 have hiz:i<zs.length:=Nat.lt_of_lt_of_le hil hy.length_le;have hx:(bF ys)[i]=x:=(List.getElem?_eq_some_iff.1 hi).2;have PA:x.1=ys[i]:=by
  rw [←hx];exact congrArg Prod.fst (PV ys i SD)
 have hyz:ys[i]=zs[i]:=by
  obtain ⟨t,rfl⟩:=hy;exact (List.getElem_append_left hil).symm
 have e:off+i*ky.width=off+i:=by show off+i*1=off+i;omega
 rw [e];show fx _ ok (.cons (.int .i64) .nil) b (off+i) x;unfold fx;refine ⟨⟨.int .i64 ys[i],?_,yr.2 (congrArg (Value.int .i64) PA.symm)⟩,by unfold fx;trivial⟩;unfold World.cell?;simp only [Cx hb zs];have dO:off+i<cur.size:=by omega
 simp only [_root_.Go.Sort.putCells,Array.getElem?_mapIdx,Array.getElem?_eq_getElem dO,Option.map_some];rw [if_neg (by simp),Option.some.injEq,if_pos ⟨by omega,by simp;omega⟩,show off+i-off=i by omega,getElem!_pos _ i (by simpa using hiz)];simp [hyz]
theorem HW {p:AP} {fS:List AV} {x:aO (aH ([p].map some))} (h:ib [p] fS=some x):∃a,fS=[a]∧Kk p .nil a ()=some x:=by
 match fS,h with
 | [],h=>cases h
 | [a],h=>exact ⟨a,rfl,h⟩
 |a::b::l,h=>cases h
theorem PX {p:OP} {t:RT} {os:List OV} {y:aO t} {x:aO (pb [p] t)} (h:fp [p] t os y=some x):∃o z,os=[o]∧vt p o=some z∧x=(z,y):=by
 match os,h with
 | [],h=>cases h
 | [o],h=>
  unfold fp fp at h
  cases hc:vt p o with
  |none=>rw [hc] at h;cases h
  |some z=>
   rw [hc] at h;injection h with h;exact ⟨o,z,rfl,hc,h.symm⟩
 |a::b::l,h=>
  exfalso
  unfold fp fp at h
  cases hc:vt p a<;>rw [hc] at h<;>cases h
def HX (xs:List (Int×Unit)):Option ((List (Int×Unit))×Unit):=bif Nat.ble xs.length lim then some (bF ((cm xs).mergeSort fun x y=>decide (x≤y)),()) else none
theorem PY {P:Program} {ρ:Ren} (L:Lays.n189 P ρ) {f:Nat} (hf:ρ.f 189=f) (UO:∃fn,P.funcs[f]?=some fn∧(fn.name == "runtime.NumGoroutine")=false∧fn.body.isNone=false) :
  tZ P f (pe [.io ky] [] (fun x=>HX x.1)):=by
 refine ⟨?_,UO⟩;intro c w mu lc fS args A y hH hA hs ho;unfold pe at hs
 cases hx:ib [.io ky] fS with
 |none=>rw [hx] at hs;cases hs
 |some x=>
  rw [hx] at hs;simp only [Option.some.injEq] at hs;subst hs;obtain ⟨a0,rfl,hq⟩:=HW hx;clear hx
  cases a0 with
  |val _ _=>cases hq
  |box _=>cases hq
  |dR _=>cases hq
  |io A0=>
   obtain ⟨v,l,ha,hv,hl⟩:=hA;have hl:l=[]:=hl;subst hl;have ha:args = #[v]:=Array.toList_inj.1 ha;subst ha;obtain ⟨r0,o0,tY,md0⟩:=A0;unfold Kk at hq;obtain ⟨GN,Nd⟩:=bI hq;clear hq;have GN:=Md.xe.1 GN;subst GN
   cases hc:ef ky tY with
   |none=>simp [hc] at Nd
   |some xs=>
    simp only [hc] at Nd;injection Nd with hq;obtain ⟨e,he⟩:=cU hc
    cases e
    have he:xs=tY:=he;rw [he] at hq;subst hq;have GQ:HX tY=some y:=ho;unfold HX at GQ;obtain ⟨hb,GQ⟩:=bI GQ;have Jl:=Nat.le_of_ble_eq_true hb;unfold lim at Jl;injection GQ with GQ;subst GQ;obtain ⟨h1,h2,h3,h4⟩:OwnAt c w (.dC 0 0) (lc 0 0) { r:=ky,own:=o0,xs:=tY } v:=hv;have h3:o0=true:=h3;subst h3;have RH:((cm tY).mergeSort fun x y=>decide (x≤y)).length=tY.length:=by rw [List.length_mergeSort];exact kN tY
    have fin:∀(w':World),FN w mu c w'→OwnAt c w' (.dC 0 0) (lc 0 0) { r:=ky,own:=true,xs:=bF ((cm tY).mergeSort fun x y=>decide (x≤y)) } v→
      ∃v',Ending.returned (.tuple #[])=.returned v'∧∃c',FN w mu c' w'∧vq c' w' [] v'∧kx c' w' lc 0 [.io { r:=ky,own:=true,xs:=tY }] [v] [.io { r:=ky,own:=true,xs:=bF ((cm tY).mergeSort fun x y=>decide (x≤y)) }]:=
     fun w' EO ku=>⟨_,rfl,c,EO,.inr ⟨by simp,#[],rfl,rfl⟩,_,_,rfl,rfl,(dS _).trans RH,ku,rfl⟩
    have NZ:FN w mu c w:=⟨fun b l hb=>⟨hH.lt b l hb,(hH.lb b l hb).imp id fun hh=>.inr ((hH.m b).2 ⟨l,hb,hh⟩)⟩,fun b _ hb=>.inr ((hH.ok b).2 hb),⟨rfl,rfl,rfl,Nat.le_refl _⟩,fun _ _ _=>rfl⟩
    by_cases mU:tY=[]
    ·-- nothing to sort
     subst mU;have hz:∃a cp,v=.slice a 0 cp:=by
      unfold o8 at h2
      split at h2
      ·exact ⟨none,0,h2.1⟩
      ·obtain ⟨a,cp,hv,_⟩:=h2;exact ⟨some a,cp,hv⟩
     obtain ⟨a,cp,rfl⟩:=hz;have pa:=Any.slices_Sort_int_none L a cp w;rw [hf] at pa;refine pa.mono fun e w' ⟨he,hw⟩ => ?_
     subst he;subst hw;refine fin w' NZ ?_;have key:∀ys:List (aO ky),ys=[]→OwnAt c w' (.dC 0 0) (lc 0 0) { r:=ky,own:=true,xs:=ys } (.slice a 0 cp):=by
      intro ys e;subst e;exact ⟨h1,h2,rfl,h4⟩
     exact key _ (List.length_eq_zero_iff.1 ((dS _).trans RH))
    ·generalize nk:lc 0 0=loc at *
     cases loc with
     |nil=>exact absurd h4 mU
     |«at» b off cap=>
      obtain ⟨g1,g2,⟨cur,ty,g3,g4⟩,g5⟩:=h4;obtain ⟨a,cp,rfl,k1,k2,k3⟩:=h2;have acx:0<tY.length:=List.length_pos_iff.2 mU;have k1:tY.length≤cp:=k1;have ha:=k3 (by omega);have ha:a=⟨b,off,none⟩:=ha.trans (by rw [Nat.zero_mul];rfl);subst ha;have dO:b<w.heap.size:=(Array.getElem?_eq_some_iff.1 g3).1;have oN:off+tY.length≤cur.size:=by
       have g2:tY.length≤cap:=g2;have g4:off+cap*1≤cur.size:=g4;omega
      have pa:=Any.slices_Sort_int L b off cp (cm tY) w (HV g3 ((dZ.sh rfl).1 g5)) dO (by rw [kN tY];omega);rw [hf] at pa;have hlen:(cm tY).length=tY.length:=kN tY;rw [hlen] at pa;refine pa.mono fun e w' ⟨he,n,os,hw⟩ => ?_
      subst he;subst hw;have hsl:off+((cm tY).mergeSort fun x y=>decide (x≤y)).length≤cur.size:=by rw [RH];exact oN
      have hm:mu.m b:=(hH.m b).2 ⟨_,g1,rfl⟩;refine fin _ (NY hH hm _) ?_;have N0:(bF ((cm tY).mergeSort fun x y=>decide (x≤y))).length=tY.length:=(dS _).trans RH;refine ⟨h1,⟨_,cp,congrArg (fun n=>Value.slice (some ⟨b,off,none⟩) n cp) N0.symm,Nat.le_trans (Nat.le_of_eq N0) k1,k2,k3⟩,rfl,g1,?_,⟨_,ty,Cx g3 _,?_⟩,(dZ.sh rfl).2 (Kz g3 _ hsl (List.prefix_refl _))⟩
      ·exact Nat.le_trans (Nat.le_of_eq N0) g2
      ·show off+cap*1≤_;simp only [_root_.Go.Sort.putCells,Array.size_mapIdx];exact g4
def qo (xs:List (Int×Unit)):Option ((List (Int×Unit))×Unit):=bif Nat.ble xs.length lim then some (bF (Lib.compact (cm xs)),()) else none
theorem N1 (zs:List Int):(Lib.compact zs).length≤zs.length:=by
 unfold Lib.compact Lib.compactUpTo;rw [List.length_map];exact Nat.le_trans (List.length_filter_le _ _) (by simp)
def Cz.one (c:Cz) (b:Nat) (l:Lb):Cz:={ c with own:=fun b'=>if b'=b then some l else c.own b' }
theorem FN.one {c:Cz} {w w':World} {mu:Mu} {b:Nat} {l:Lb} (h:FN w mu c w') (hm:mu.m b) (hb:b<w'.heap.size):FN w mu (c.one b l) w':=by
 refine ⟨fun b' l' h' => ?_,fun b' dO h' => ?_,h.kept,h.old⟩
 ·have h':(if b'=b then some l else c.own b')=some l':=h'
  by_cases e:b'=b
  ·subst e;exact ⟨hb,.inr (.inr hm)⟩
  ·rw [if_neg e] at h';exact h.owned b' l' h'
 ·have h':(if b'=b then some l else c.own b')=none:=h'
  by_cases e:b'=b
  ·rw [if_pos e] at h';cases h'
  ·rw [if_neg e] at h';exact h.free b' dO h'
theorem Jp {P:Program} {ρ:Ren} (L:Lays2.n20 P ρ) {f:Nat} (hf:ρ.f 20=f) (UO:∃fn,P.funcs[f]?=some fn∧(fn.name == "runtime.NumGoroutine")=false∧fn.body.isNone=false) :
  tZ P f (pe [.val false [.own ky]] [{ src:=.tmp 0,agg:=false,ps:=[.own ky] }] (fun x=>qo x.1)):=by
 refine ⟨?_,UO⟩;intro c w mu lc fS args A y hH hA hs ho;unfold pe at hs
 cases hx:ib [.val false [.own ky]] fS with
 |none=>rw [hx] at hs;cases hs
 |some x=>
  rw [hx] at hs;simp only [Option.some.injEq] at hs;subst hs;have NZ:FN w mu c w:=⟨fun b l hb=>⟨hH.lt b l hb,(hH.lb b l hb).imp id fun hh=>.inr ((hH.m b).2 ⟨l,hb,hh⟩)⟩,fun b _ hb=>.inr ((hH.ok b).2 hb),⟨rfl,rfl,rfl,Nat.le_refl _⟩,fun _ _ _=>rfl⟩;have empty:∀a cp,Calls P f #[.slice a 0 cp] w fun e w'=>e=.returned (.slice a 0 cp)∧w'=w:=fun a cp=>by
   have pa:=calls_of_every_depth fun D=>AnyS.slices_Compact_int_empty_in L D a cp w
   rw [hf] at pa;exact pa
  have ans:∀(os:List OV) (v:Value) (c':Cz) (w':World) (loc:Loc) (u:Value) (ys:List (aO ky)),FN w mu c' w'→OwnAt c' w' (.kK 0) loc { r:=ky,own:=true,xs:=ys } u→
    ∃v',Ending.returned u=.returned v'∧∃c',FN w mu c' w'∧vq c' w' [.one (.own { r:=ky,own:=true,xs:=ys })] v'∧kx c' w' lc 0 [.val false os] [v] []:=
   fun os v c' w' loc u ys hb ku=>⟨u,rfl,c',hb,.inl ⟨_,rfl,u,[],rfl,⟨u,[],rfl,⟨loc,ku⟩,rfl⟩,rfl⟩,rfl⟩
  obtain ⟨a0,rfl,hq⟩:=HW hx;clear hx
  cases a0 with
  |io _=>cases hq
  |box _=>cases hq
  |dR _=>cases hq
  |val ag os=>
  cases ag with
  |true=>cases hq
  |false=>
  obtain ⟨o,z,rfl,hz,LZ⟩:=PX hq;clear hq
  cases o with
  |int _ _=>cases hz
  |bool _=>cases hz
  |str _=>cases hz
  |shr _ _=>cases hz
  |oZ _ _=>cases hz
  |fn _ _ _=>cases hz
  |gj=>
   obtain ⟨v,l,ha,hv,hl⟩:=hA;have hl:l=[]:=hl;subst hl;have ha:args = #[v]:=Array.toList_inj.1 ha;subst ha;obtain ⟨l',xh,_⟩:=hv;injection xh with xh _;subst xh;injection hz with hz;subst hz;subst LZ;have GQ:qo []=some y:=ho;have hy:y=([],()):=by
    have:qo []=some ([],()):=rfl;rw [this] at GQ;injection GQ with GQ;exact GQ.symm
   subst hy;refine (empty none 0).mono fun e w' ⟨he,hw⟩ => ?_
   subst he;subst hw;exact ans _ _ c _ .nil _ [] NZ ⟨rfl,⟨rfl,rfl⟩,rfl,rfl⟩
  |own A0=>
   obtain ⟨v,l,ha,hv,hl⟩:=hA;have hl:l=[]:=hl;subst hl;have ha:args = #[v]:=Array.toList_inj.1 ha;subst ha;obtain ⟨v1,l',xh,⟨loc,Ph⟩,_⟩:=hv;injection xh with xh _;subst xh;obtain ⟨r0,o0,tY,md0⟩:=A0;have hz:(bif md0.is .sh then ef ky tY else none)=some z:=hz;obtain ⟨GN,hz⟩:=bI hz;have GN:=Md.xe.1 GN;subst GN
   cases hc:ef ky tY with
   |none=>rw [hc] at hz;cases hz
   |some xs=>
    have hzx:xs=z:=Option.some.inj (hc.symm.trans hz);obtain ⟨e,he⟩:=cU hc
    cases e
    have he:xs=tY:=he;rw [←hzx,he] at LZ;subst LZ;have GQ:qo tY=some y:=ho;unfold qo at GQ;obtain ⟨hb,GQ⟩:=bI GQ;have Jl:=Nat.le_of_ble_eq_true hb;unfold lim at Jl;injection GQ with GQ;subst GQ;obtain ⟨h1,h2,h3,h4⟩:=Ph
    by_cases mU:tY=[]
    ·subst mU
     cases loc with
     |nil=>
      obtain ⟨h2,_⟩:=h2;subst h2;refine (empty none 0).mono fun e w' ⟨he,hw⟩ => ?_
      subst he;subst hw;exact ans _ _ c _ .nil _ [] NZ ⟨rfl,⟨rfl,rfl⟩,rfl,rfl⟩
     |«at» b off cap=>
      obtain ⟨g1,g2,⟨cur,ty,g3,g4⟩,g5⟩:=h4;obtain ⟨a,cp,hv3,k1,k2,k3⟩:=h2;have hv3:v=.slice (some a) 0 cp:=hv3;subst hv3;have dO:b<w.heap.size:=(Array.getElem?_eq_some_iff.1 g3).1;refine (empty (some a) cp).mono fun e w' ⟨he,hw⟩ => ?_
      subst he;subst hw;exact ans _ _ (c.one b (.kK 0)) _ (.at b off cap) _ [] (NZ.one ((hH.m b).2 ⟨_,g1,rfl⟩) dO) ⟨rfl,⟨a,cp,rfl,k1,k2,k3⟩,rfl,if_pos rfl,Nat.zero_le _,⟨cur,ty,g3,g4⟩,(dZ.sh rfl).2 fun i x hi=>by simp at hi⟩
    ·cases loc with
     |nil=>exact absurd h4 mU
     |«at» b off cap=>
      obtain ⟨g1,g2,⟨cur,ty,g3,g4⟩,g5⟩:=h4;obtain ⟨a,cp,hv3,k1,k2,k3⟩:=h2;subst hv3;have acx:0<tY.length:=List.length_pos_iff.2 mU;have k1:tY.length≤cp:=k1;have ha:=k3 (by omega);have ha:a=⟨b,off,none⟩:=ha.trans (by rw [Nat.zero_mul];rfl);subst ha;have dO:b<w.heap.size:=(Array.getElem?_eq_some_iff.1 g3).1;have oN:off+tY.length≤cur.size:=by
       have g2:tY.length≤cap:=g2;have g4:off+cap*1≤cur.size:=g4;omega
      have hlen:(cm tY).length=tY.length:=kN tY;have pa:=calls_of_every_depth fun D=>AnyS.slices_Compact_int_in L D b off cp (cm tY) w (HV g3 ((dZ.sh rfl).1 g5)) (Nat.le_trans (Nat.le_of_eq (kN tY)) (Nat.le_trans Jl (by decide))) (Nat.le_trans (Nat.le_of_eq (kN tY)) k1)
      rw [hf,hlen] at pa;have Az:=N1 (cm tY);rw [hlen] at Az;refine pa.mono fun e w' ⟨he,q,hw⟩ => ?_
      subst he;rw [←grow_empty (putRow _ _ _ _ _)] at hw;subst hw;have hm:mu.m b:=(hH.m b).2 ⟨_,g1,rfl⟩;have hsl:off+(Lib.compact (cm tY)++List.replicate (tY.length-(Lib.compact (cm tY)).length) 0).length≤cur.size:=by
       rw [List.length_append,List.length_replicate];omega
      have EO:FN w mu c (grow (putRow (Value.int .i64) (Sort.ahead w q) b off (Lib.compact (cm tY)++List.replicate (tY.length-(Lib.compact (cm tY)).length) 0).toArray) #[]):=NY hH hm _;refine ans _ _ (c.one b (.kK 0)) _ (.at b off cap) _ _ (EO.one hm (Nat.lt_of_lt_of_le dO (EZ _))) ⟨rfl,⟨_,cp,congrArg (fun n=>Value.slice (some ⟨b,off,none⟩) n cp) (dS _).symm,Nat.le_trans (Nat.le_of_eq (dS _)) (Nat.le_trans Az k1),k2,k3⟩,rfl,if_pos rfl,?_,⟨_,ty,Cx g3 _,?_⟩,Kz g3 _ hsl (List.prefix_append _ _)⟩
      ·exact Nat.le_trans (Nat.le_of_eq (dS _)) (Nat.le_trans Az g2)
      ·show off+cap*1≤_;simp only [_root_.Go.Sort.putCells,Array.size_mapIdx];exact g4
end Go.TM
