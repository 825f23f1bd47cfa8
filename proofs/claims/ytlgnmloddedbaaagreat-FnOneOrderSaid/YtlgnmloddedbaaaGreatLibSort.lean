/- slices.Sort and slices.Compact at whole numbers, of the kit's library of contracts, as functions of the tree machine. -/
import Derived.Test.YtlgnmloddedbaaaGreatLibDel
import Derived.Shelf.Sort.Plain
import Derived.Shelf.Slices.In.SortNone
import Derived.Shelf.Slices.In.CompactI
namespace Go.TM
open Go Go.RowKit Go.Proofs Go.Shelf Go.Sort
abbrev iu : RT := .cons (.int .i64) .nil
def aZ (xs : List (Int × Unit)) : List Int := xs.map (·.1)
def aO (zs : List Int) : List (Int × Unit) := zs.map fun z => (z, ())
theorem bQ (zs : List Int) : (aO zs).length = zs.length := List.length_map ..
theorem iN (xs : List (Int × Unit)) : (aZ xs).length = xs.length := List.length_map ..
theorem J7 (xs : List (Int × Unit)) (j : Nat) (h : j < (aZ xs).length) : (aZ xs)[j] = (xs[j]'(by rw [iN] at h; exact h)).1 := List.getElem_map ..
theorem J8 (zs : List Int) (j : Nat) (h : j < (aO zs).length) : (aO zs)[j] = (zs[j]'(by rw [bQ] at h; exact h), ()) := List.getElem_map ..
theorem DB {w : World} {ok : Nat → Prop} {b off : Nat} {cur : Array Value} {ty : TypeId} {xs : List (ar iu)} (hb : w.heap[b]? = some (.cells cur ty (0, 0))) (hx : ∀ i x, xs[i]? = some x → cn w ok iu b (off + i * iu.width) x) :
   Holds (Value.int .i64) w b off (aZ xs).toArray := by
 intro j hj; have Ra : j < (aZ xs).length := hj; have hlen : (aZ xs).length = List.length (α := ar iu) xs := iN xs; have IA : j < List.length (α := ar iu) xs := by omega
 have h1 : cn w ok (.cons (.int .i64) .nil) b (off + j * iu.width) (xs[j]'IA) := hx j _ (List.getElem?_eq_getElem IA); unfold cn at h1; obtain ⟨⟨v, h2, h3⟩, _⟩ := h1; have h3 := qD.1 h3; subst h3; have e : off + j * iu.width = off + j := by show off + j * 1 = off + j; omega
 rw [e] at h2; refine ⟨?_, ?_⟩
 · rw [h2, getElem!_pos (aZ xs).toArray j hj]; exact congrArg (fun z => some (Value.int .i64 z)) (J7 xs j Ra).symm
 · unfold World.frozen?; simp only [hb]; simp
theorem xQ {w : World} {n : Nat} {os : Array Obj} {b off : Nat} {cur : Array Value} {ty : TypeId} (hb : w.heap[b]? = some (.cells cur ty (0, 0))) (zs : List Int) :
   (grow (putRow (Value.int .i64) (Sort.ahead w n) b off zs.toArray) os).heap[b]? = some (.cells (_root_.Go.Sort.putCells (Value.int .i64) off zs.toArray cur) ty (0, 0)) := by
 have bN : b < w.heap.size := (Array.getElem?_eq_some_iff.1 hb).1; show (w.heap.modify b (onCells _) ++ os)[b]? = _; rw [Array.getElem?_append_left (by simpa using bN), Array.getElem?_modify, if_pos rfl, hb]; rfl
theorem J9 {w : World} {n : Nat} {os : Array Obj} {b off : Nat} (zs : List Int) {k : Nat} (hk : k < w.heap.size) (fe : k ≠ b) :
   (grow (putRow (Value.int .i64) (Sort.ahead w n) b off zs.toArray) os).heap[k]? = w.heap[k]? := by
 show (w.heap.modify b (onCells _) ++ os)[k]? = _; rw [Array.getElem?_append_left (by simpa using hk), Array.getElem?_modify, if_neg (Ne.symm fe)]
theorem AI {w : World} {n : Nat} {os : Array Obj} {b off : Nat} (zs : List Int) : w.heap.size ≤ (grow (putRow (Value.int .i64) (Sort.ahead w n) b off zs.toArray) os).heap.size := by
 show w.heap.size ≤ (w.heap.modify b (onCells _) ++ os).size; rw [Array.size_append, Array.size_modify]; omega
theorem IB {c : Cz} {w : World} {mu : Mu} {n : Nat} {os : Array Obj} {b off : Nat} (hH : Handed c w mu) (hm : mu.m b) (zs : List Int) : Aq w mu c (grow (putRow (Value.int .i64) (Sort.ahead w n) b off zs.toArray) os) :=
 ⟨fun b' l lV => ⟨Nat.lt_of_lt_of_le (hH.lt b' l lV) (AI zs), (hH.lb b' l lV).imp id fun hh => .inr ((hH.m b').2 ⟨l, lV, hh⟩)⟩, fun b' _ lV => .inr ((hH.ok b').2 lV), ⟨rfl, rfl, rfl, AI zs⟩, fun k hk hkm => J9 zs hk (fun e => hkm (e ▸ hm))⟩
theorem FJ {w : World} {ok : Nat → Prop} {n : Nat} {os : Array Obj} {b off : Nat} {cur : Array Value} {ty : TypeId} (hb : w.heap[b]? = some (.cells cur ty (0, 0))) (zs : List Int) (hs : off + zs.length ≤ cur.size) {ys : List Int} (hy : ys <+: zs) :
   ∀ i (x : ar iu), (show List (ar iu) from aO ys)[i]? = some x → cn (grow (putRow (Value.int .i64) (Sort.ahead w n) b off zs.toArray) os) ok iu b (off + i * iu.width) x := by
 intro i x hi; have Oa : i < (aO ys).length := (List.getElem?_eq_some_iff.1 hi).1; have hil : i < ys.length := by rw [bQ] at Oa; exact Oa
 have hiz : i < zs.length := Nat.lt_of_lt_of_le hil hy.length_le; have hx : (aO ys)[i] = x := (List.getElem?_eq_some_iff.1 hi).2; have JH : x.1 = ys[i] := by
   rw [← hx]; exact congrArg Prod.fst (J8 ys i Oa)
 have hyz : ys[i] = zs[i] := by
   obtain ⟨t, rfl⟩ := hy; exact (List.getElem_append_left hil).symm
 have e : off + i * iu.width = off + i := by show off + i * 1 = off + i; omega
 rw [e]; show cn _ ok (.cons (.int .i64) .nil) b (off + i) x; unfold cn; refine ⟨⟨.int .i64 ys[i], ?_, qD.2 (congrArg (Value.int .i64) JH.symm)⟩, by unfold cn; trivial⟩; unfold World.cell?; simp only [xQ hb zs]; have bN : off + i < cur.size := by omega
 simp only [_root_.Go.Sort.putCells, Array.getElem?_mapIdx, Array.getElem?_eq_getElem bN, Option.map_some]; rw [if_neg (by simp), Option.some.injEq, if_pos ⟨by omega, by simp; omega⟩, show off + i - off = i by omega, getElem!_pos _ i (by simpa using hiz)]; simp [hyz]
theorem DC {p : AP} {dt : List AV} {x : ar (aE ([p].map some))} (h : eJ [p] dt = some x) : ∃ a, dt = [a] ∧ Fs p .nil a () = some x := by
 match dt, h with
 | [], h => cases h
 | [a], h => exact ⟨a, rfl, h⟩
 | a :: b :: l, h => cases h
theorem Ka {p : OP} {t : RT} {os : List OV} {y : ar t} {x : ar (lB [p] t)} (h : cX [p] t os y = some x) : ∃ o z, os = [o] ∧ qO p o = some z ∧ x = (z, y) := by
 match os, h with
 | [], h => cases h
 | [o], h =>
   unfold cX cX at h
   cases hc : qO p o with
   | none => rw [hc] at h; cases h
   | some z =>
     rw [hc] at h; injection h with h; exact ⟨o, z, rfl, hc, h.symm⟩
 | a :: b :: l, h =>
   exfalso
   unfold cX cX at h
   cases hc : qO p a <;> rw [hc] at h <;> cases h
def DD (xs : List (Int × Unit)) : Option ((List (Int × Unit)) × Unit) := bif Nat.ble xs.length lim then some (aO ((aZ xs).mergeSort fun x y => decide (x ≤ y)), ()) else none
theorem Kb {P : Program} {ρ : Ren} (L : Lays.n189 P ρ) {f : Nat} (hf : ρ.f 189 = f) (MD : ∃ fn, P.funcs[f]? = some fn ∧ (fn.name == "runtime.NumGoroutine") = false ∧ fn.body.isNone = false) :
   nD P f (kz [.io iu] [] (fun x => DD x.1)) := by
 refine ⟨?_, MD⟩; intro c w mu lc dt args A y hH hA hs ho; unfold kz at hs
 cases hx : eJ [.io iu] dt with
 | none => rw [hx] at hs; cases hs
 | some x =>
   rw [hx] at hs; simp only [Option.some.injEq] at hs; subst hs; obtain ⟨a0, rfl, hq⟩ := DC hx; clear hx
   cases a0 with
   | val _ _ => cases hq
   | box _ => cases hq
   | bB _ => cases hq
   | io A0 =>
     obtain ⟨v, l, ha, hv, hl⟩ := hA; have hl : l = [] := hl; subst hl; have ha : args = #[v] := Array.toList_inj.1 ha; subst ha; obtain ⟨r0, o0, oX, UB⟩ := A0; unfold Fs at hq; obtain ⟨xi, JI⟩ := aH hq; clear hq; have xi := Md.lS.1 xi; subst xi
     cases hc : bw iu oX with
     | none => simp [hc] at JI
     | some xs =>
       simp only [hc] at JI; injection JI with hq; obtain ⟨e, he⟩ := a7 hc
       cases e
       have he : xs = oX := he; rw [he] at hq; subst hq; have Cn : DD oX = some y := ho; unfold DD at Cn; obtain ⟨hb, Cn⟩ := aH Cn; have Gy := Nat.le_of_ble_eq_true hb; unfold lim at Gy; injection Cn with Cn; subst Cn; obtain ⟨h1, h2, h3, h4⟩ : OwnAt c w (.bG 0 0) (lc 0 0) { r := iu, own := o0, xs := oX } v := hv; have h3 : o0 = true := h3; subst h3; have LJ : ((aZ oX).mergeSort fun x y => decide (x ≤ y)).length = oX.length := by rw [List.length_mergeSort]; exact iN oX
       have fin : ∀ (w' : World), Aq w mu c w' → OwnAt c w' (.bG 0 0) (lc 0 0) { r := iu, own := true, xs := aO ((aZ oX).mergeSort fun x y => decide (x ≤ y)) } v →
           ∃ v', Ending.returned (.tuple #[]) = .returned v' ∧ ∃ c', Aq w mu c' w' ∧ qJ c' w' [] v' ∧ iq c' w' lc 0 [.io { r := iu, own := true, xs := oX }] [v] [.io { r := iu, own := true, xs := aO ((aZ oX).mergeSort fun x y => decide (x ≤ y)) }] :=
         fun w' Az eW => ⟨_, rfl, c, Az, .inr ⟨by simp, #[], rfl, rfl⟩, _, _, rfl, rfl, (bQ _).trans LJ, eW, rfl⟩
       have IC : Aq w mu c w := ⟨fun b l hb => ⟨hH.lt b l hb, (hH.lb b l hb).imp id fun hh => .inr ((hH.m b).2 ⟨l, hb, hh⟩)⟩, fun b _ hb => .inr ((hH.ok b).2 hb), ⟨rfl, rfl, rfl, Nat.le_refl _⟩, fun _ _ _ => rfl⟩
       by_cases fe : oX = []
       · -- nothing to sort
         subst fe; have hz : ∃ a cp, v = .slice a 0 cp := by
           unfold je at h2
           split at h2
           · exact ⟨none, 0, h2.1⟩
           · obtain ⟨a, cp, hv, _⟩ := h2; exact ⟨some a, cp, hv⟩
         obtain ⟨a, cp, rfl⟩ := hz; have kx := Any.slices_Sort_int_none L a cp w; rw [hf] at kx; refine kx.mono fun e w' ⟨he, hw⟩ => ?_
         subst he; subst hw; refine fin w' IC ?_; have key : ∀ ys : List (ar iu), ys = [] → OwnAt c w' (.bG 0 0) (lc 0 0) { r := iu, own := true, xs := ys } (.slice a 0 cp) := by
           intro ys e; subst e; exact ⟨h1, h2, rfl, h4⟩
         exact key _ (List.length_eq_zero_iff.1 ((bQ _).trans LJ))
       · generalize gV : lc 0 0 = loc at *
         cases loc with
         | nil => exact absurd h4 fe
         | «at» b off cap =>
           obtain ⟨g1, g2, ⟨cur, ty, g3, g4⟩, g5⟩ := h4; obtain ⟨a, cp, rfl, k1, k2, k3⟩ := h2; have O7 : 0 < oX.length := List.length_pos_iff.2 fe; have k1 : oX.length ≤ cp := k1; have ha := k3 (by omega); have ha : a = ⟨b, off, none⟩ := ha.trans (by rw [Nat.zero_mul]; rfl); subst ha; have bN : b < w.heap.size := (Array.getElem?_eq_some_iff.1 g3).1; have kO : off + oX.length ≤ cur.size := by
             have g2 : oX.length ≤ cap := g2; have g4 : off + cap * 1 ≤ cur.size := g4; omega
           have kx := Any.slices_Sort_int L b off cp (aZ oX) w (DB g3 ((bm.sh rfl).1 g5)) bN (by rw [iN oX]; omega); rw [hf] at kx; have hlen : (aZ oX).length = oX.length := iN oX; rw [hlen] at kx; refine kx.mono fun e w' ⟨he, n, os, hw⟩ => ?_
           subst he; subst hw; have O6 : off + ((aZ oX).mergeSort fun x y => decide (x ≤ y)).length ≤ cur.size := by rw [LJ]; exact kO
           have hm : mu.m b := (hH.m b).2 ⟨_, g1, rfl⟩; refine fin _ (IB hH hm _) ?_; have ID : (aO ((aZ oX).mergeSort fun x y => decide (x ≤ y))).length = oX.length := (bQ _).trans LJ; refine ⟨h1, ⟨_, cp, congrArg (fun n => Value.slice (some ⟨b, off, none⟩) n cp) ID.symm, Nat.le_trans (Nat.le_of_eq ID) k1, k2, k3⟩, rfl, g1, ?_, ⟨_, ty, xQ g3 _, ?_⟩, (bm.sh rfl).2 (FJ g3 _ O6 (List.prefix_refl _))⟩
           · exact Nat.le_trans (Nat.le_of_eq ID) g2
           · show off + cap * 1 ≤ _; simp only [_root_.Go.Sort.putCells, Array.size_mapIdx]; exact g4
def mN (xs : List (Int × Unit)) : Option ((List (Int × Unit)) × Unit) := bif Nat.ble xs.length lim then some (aO (Lib.compact (aZ xs)), ()) else none
theorem IE (zs : List Int) : (Lib.compact zs).length ≤ zs.length := by
 unfold Lib.compact Lib.compactUpTo; rw [List.length_map]; exact Nat.le_trans (List.length_filter_le _ _) (by simp)
def Cz.one (c : Cz) (b : Nat) (l : Lb) : Cz := { c with own := fun b' => if b' = b then some l else c.own b' }
theorem Aq.one {c : Cz} {w w' : World} {mu : Mu} {b : Nat} {l : Lb} (h : Aq w mu c w') (hm : mu.m b) (hb : b < w'.heap.size) : Aq w mu (c.one b l) w' := by
 refine ⟨fun b' l' h' => ?_, fun b' bN h' => ?_, h.kept, h.old⟩
 · have h' : (if b' = b then some l else c.own b') = some l' := h'
   by_cases e : b' = b
   · subst e; exact ⟨hb, .inr (.inr hm)⟩
   · rw [if_neg e] at h'; exact h.owned b' l' h'
 · have h' : (if b' = b then some l else c.own b') = none := h'
   by_cases e : b' = b
   · rw [if_pos e] at h'; cases h'
   · rw [if_neg e] at h'; exact h.free b' bN h'
theorem EF {P : Program} {ρ : Ren} (L : Lays2.n20 P ρ) {f : Nat} (hf : ρ.f 20 = f) (MD : ∃ fn, P.funcs[f]? = some fn ∧ (fn.name == "runtime.NumGoroutine") = false ∧ fn.body.isNone = false) :
   nD P f (kz [.val false [.own iu]] [{ src := .tmp 0, agg := false, ps := [.own iu] }] (fun x => mN x.1)) := by
 refine ⟨?_, MD⟩; intro c w mu lc dt args A y hH hA hs ho; unfold kz at hs
 cases hx : eJ [.val false [.own iu]] dt with
 | none => rw [hx] at hs; cases hs
 | some x =>
   rw [hx] at hs; simp only [Option.some.injEq] at hs; subst hs; have IC : Aq w mu c w := ⟨fun b l hb => ⟨hH.lt b l hb, (hH.lb b l hb).imp id fun hh => .inr ((hH.m b).2 ⟨l, hb, hh⟩)⟩, fun b _ hb => .inr ((hH.ok b).2 hb), ⟨rfl, rfl, rfl, Nat.le_refl _⟩, fun _ _ _ => rfl⟩; have empty : ∀ a cp, Calls P f #[.slice a 0 cp] w fun e w' => e = .returned (.slice a 0 cp) ∧ w' = w := fun a cp => by
     have kx := calls_of_every_depth fun D => AnyS.slices_Compact_int_empty_in L D a cp w
     rw [hf] at kx; exact kx
   have ans : ∀ (os : List OV) (v : Value) (c' : Cz) (w' : World) (loc : Loc) (u : Value) (ys : List (ar iu)), Aq w mu c' w' → OwnAt c' w' (.il 0) loc { r := iu, own := true, xs := ys } u →
       ∃ v', Ending.returned u = .returned v' ∧ ∃ c', Aq w mu c' w' ∧ qJ c' w' [.one (.own { r := iu, own := true, xs := ys })] v' ∧ iq c' w' lc 0 [.val false os] [v] [] :=
     fun os v c' w' loc u ys hb eW => ⟨u, rfl, c', hb, .inl ⟨_, rfl, u, [], rfl, ⟨u, [], rfl, ⟨loc, eW⟩, rfl⟩, rfl⟩, rfl⟩
   obtain ⟨a0, rfl, hq⟩ := DC hx; clear hx
   cases a0 with
   | io _ => cases hq
   | box _ => cases hq
   | bB _ => cases hq
   | val ag os =>
   cases ag with
   | true => cases hq
   | false =>
   obtain ⟨o, z, rfl, hz, Ez⟩ := Ka hq; clear hq
   cases o with
   | int _ _ => cases hz
   | bool _ => cases hz
   | str _ => cases hz
   | shr _ _ => cases hz
   | lf _ _ => cases hz
   | fn _ _ _ => cases hz
   | dD =>
     obtain ⟨v, l, ha, hv, hl⟩ := hA; have hl : l = [] := hl; subst hl; have ha : args = #[v] := Array.toList_inj.1 ha; subst ha; obtain ⟨l', nv, _⟩ := hv; injection nv with nv _; subst nv; injection hz with hz; subst hz; subst Ez; have Cn : mN [] = some y := ho; have hy : y = ([], ()) := by
       have : mN [] = some ([], ()) := rfl; rw [this] at Cn; injection Cn with Cn; exact Cn.symm
     subst hy; refine (empty none 0).mono fun e w' ⟨he, hw⟩ => ?_
     subst he; subst hw; exact ans _ _ c _ .nil _ [] IC ⟨rfl, ⟨rfl, rfl⟩, rfl, rfl⟩
   | own A0 =>
     obtain ⟨v, l, ha, hv, hl⟩ := hA; have hl : l = [] := hl; subst hl; have ha : args = #[v] := Array.toList_inj.1 ha; subst ha; obtain ⟨v1, l', nv, ⟨loc, JR⟩, _⟩ := hv; injection nv with nv _; subst nv; obtain ⟨r0, o0, oX, UB⟩ := A0; have hz : (bif UB.is .sh then bw iu oX else none) = some z := hz; obtain ⟨xi, hz⟩ := aH hz; have xi := Md.lS.1 xi; subst xi
     cases hc : bw iu oX with
     | none => rw [hc] at hz; cases hz
     | some xs =>
       have hzx : xs = z := Option.some.inj (hc.symm.trans hz); obtain ⟨e, he⟩ := a7 hc
       cases e
       have he : xs = oX := he; rw [← hzx, he] at Ez; subst Ez; have Cn : mN oX = some y := ho; unfold mN at Cn; obtain ⟨hb, Cn⟩ := aH Cn; have Gy := Nat.le_of_ble_eq_true hb; unfold lim at Gy; injection Cn with Cn; subst Cn; obtain ⟨h1, h2, h3, h4⟩ := JR
       by_cases fe : oX = []
       · subst fe
         cases loc with
         | nil =>
           obtain ⟨h2, _⟩ := h2; subst h2; refine (empty none 0).mono fun e w' ⟨he, hw⟩ => ?_
           subst he; subst hw; exact ans _ _ c _ .nil _ [] IC ⟨rfl, ⟨rfl, rfl⟩, rfl, rfl⟩
         | «at» b off cap =>
           obtain ⟨g1, g2, ⟨cur, ty, g3, g4⟩, g5⟩ := h4; obtain ⟨a, cp, hv3, k1, k2, k3⟩ := h2; have hv3 : v = .slice (some a) 0 cp := hv3; subst hv3; have bN : b < w.heap.size := (Array.getElem?_eq_some_iff.1 g3).1; refine (empty (some a) cp).mono fun e w' ⟨he, hw⟩ => ?_
           subst he; subst hw; exact ans _ _ (c.one b (.il 0)) _ (.at b off cap) _ [] (IC.one ((hH.m b).2 ⟨_, g1, rfl⟩) bN) ⟨rfl, ⟨a, cp, rfl, k1, k2, k3⟩, rfl, if_pos rfl, Nat.zero_le _, ⟨cur, ty, g3, g4⟩, (bm.sh rfl).2 fun i x hi => by simp at hi⟩
       · cases loc with
         | nil => exact absurd h4 fe
         | «at» b off cap =>
           obtain ⟨g1, g2, ⟨cur, ty, g3, g4⟩, g5⟩ := h4; obtain ⟨a, cp, hv3, k1, k2, k3⟩ := h2; subst hv3; have O7 : 0 < oX.length := List.length_pos_iff.2 fe; have k1 : oX.length ≤ cp := k1; have ha := k3 (by omega); have ha : a = ⟨b, off, none⟩ := ha.trans (by rw [Nat.zero_mul]; rfl); subst ha; have bN : b < w.heap.size := (Array.getElem?_eq_some_iff.1 g3).1; have kO : off + oX.length ≤ cur.size := by
             have g2 : oX.length ≤ cap := g2; have g4 : off + cap * 1 ≤ cur.size := g4; omega
           have hlen : (aZ oX).length = oX.length := iN oX; have kx := calls_of_every_depth fun D => AnyS.slices_Compact_int_in L D b off cp (aZ oX) w (DB g3 ((bm.sh rfl).1 g5)) (Nat.le_trans (Nat.le_of_eq (iN oX)) (Nat.le_trans Gy (by decide))) (Nat.le_trans (Nat.le_of_eq (iN oX)) k1)
           rw [hf, hlen] at kx; have oT := IE (aZ oX); rw [hlen] at oT; refine kx.mono fun e w' ⟨he, q, hw⟩ => ?_
           subst he; rw [← grow_empty (putRow _ _ _ _ _)] at hw; subst hw; have hm : mu.m b := (hH.m b).2 ⟨_, g1, rfl⟩; have O6 : off + (Lib.compact (aZ oX) ++ List.replicate (oX.length - (Lib.compact (aZ oX)).length) 0).length ≤ cur.size := by
             rw [List.length_append, List.length_replicate]; omega
           have Az : Aq w mu c (grow (putRow (Value.int .i64) (Sort.ahead w q) b off (Lib.compact (aZ oX) ++ List.replicate (oX.length - (Lib.compact (aZ oX)).length) 0).toArray) #[]) := IB hH hm _; refine ans _ _ (c.one b (.il 0)) _ (.at b off cap) _ _ (Az.one hm (Nat.lt_of_lt_of_le bN (AI _))) ⟨rfl, ⟨_, cp, congrArg (fun n => Value.slice (some ⟨b, off, none⟩) n cp) (bQ _).symm, Nat.le_trans (Nat.le_of_eq (bQ _)) (Nat.le_trans oT k1), k2, k3⟩, rfl, if_pos rfl, ?_, ⟨_, ty, xQ g3 _, ?_⟩, FJ g3 _ O6 (List.prefix_append _ _)⟩
           · exact Nat.le_trans (Nat.le_of_eq (bQ _)) (Nat.le_trans oT g2)
           · show off + cap * 1 ≤ _; simp only [_root_.Go.Sort.putCells, Array.size_mapIdx]; exact g4
end Go.TM
