/- slices.Sort and slices.Compact at whole numbers, of the kit's library of contracts, as functions of the tree machine. -/
import Derived.Test.YtiljcjnnhkidbaaGreatLibWide
import Derived.Shelf.Sort.Plain
import Derived.Shelf.Slices.In.SortNone
import Derived.Shelf.Slices.In.CompactI
namespace Go.TM
open Go Go.RowKit Go.Proofs Go.Shelf Go.Sort
abbrev gh : RT := .cons (.int .i64) .nil
def aZ (xs : List (Int × Unit)) : List Int := xs.map (·.1)
def aN (zs : List Int) : List (Int × Unit) := zs.map fun z => (z, ())
theorem bJ (zs : List Int) : (aN zs).length = zs.length := List.length_map ..
theorem gw (xs : List (Int × Unit)) : (aZ xs).length = xs.length := List.length_map ..
theorem Hd (xs : List (Int × Unit)) (j : Nat) (h : j < (aZ xs).length) : (aZ xs)[j] = (xs[j]'(by rw [gw] at h; exact h)).1 := List.getElem_map ..
theorem He (zs : List Int) (j : Nat) (h : j < (aN zs).length) : (aN zs)[j] = (zs[j]'(by rw [bJ] at h; exact h), ()) := List.getElem_map ..
theorem Bb {w : World} {ok : Nat → Prop} {b off : Nat} {cur : Array Value} {ty : TypeId} {xs : List (ak gh)} (hb : w.heap[b]? = some (.cells cur ty (0, 0))) (hx : ∀ i x, xs[i]? = some x → bU w ok gh b (off + i * gh.width) x) :
   Holds (Value.int .i64) w b off (aZ xs).toArray := by
 intro j hj; have Ob : j < (aZ xs).length := hj; have hlen : (aZ xs).length = List.length (α := ak gh) xs := gw xs; have L9 : j < List.length (α := ak gh) xs := by omega
 have h1 : bU w ok (.cons (.int .i64) .nil) b (off + j * gh.width) (xs[j]'L9) := hx j _ (List.getElem?_eq_getElem L9); unfold bU at h1; obtain ⟨⟨v, h2, h3⟩, _⟩ := h1; have h3 := oK.1 h3; subst h3; have e : off + j * gh.width = off + j := by show off + j * 1 = off + j; omega
 rw [e] at h2; refine ⟨?_, ?_⟩
 · rw [h2, getElem!_pos (aZ xs).toArray j hj]; exact congrArg (fun z => some (Value.int .i64 z)) (Hd xs j Ob).symm
 · unfold World.frozen?; simp only [hb]; simp
theorem vR {w : World} {n : Nat} {os : Array Obj} {b off : Nat} {cur : Array Value} {ty : TypeId} (hb : w.heap[b]? = some (.cells cur ty (0, 0))) (zs : List Int) :
   (grow (putRow (Value.int .i64) (Sort.ahead w n) b off zs.toArray) os).heap[b]? = some (.cells (_root_.Go.Sort.putCells (Value.int .i64) off zs.toArray cur) ty (0, 0)) := by
 have bQ : b < w.heap.size := (Array.getElem?_eq_some_iff.1 hb).1; show (w.heap.modify b (onCells _) ++ os)[b]? = _; rw [Array.getElem?_append_left (by simpa using bQ), Array.getElem?_modify, if_pos rfl, hb]; rfl
theorem Hf {w : World} {n : Nat} {os : Array Obj} {b off : Nat} (zs : List Int) {k : Nat} (hk : k < w.heap.size) (fm : k ≠ b) :
   (grow (putRow (Value.int .i64) (Sort.ahead w n) b off zs.toArray) os).heap[k]? = w.heap[k]? := by
 show (w.heap.modify b (onCells _) ++ os)[k]? = _; rw [Array.getElem?_append_left (by simpa using hk), Array.getElem?_modify, if_neg (Ne.symm fm)]
theorem yu {w : World} {n : Nat} {os : Array Obj} {b off : Nat} (zs : List Int) : w.heap.size ≤ (grow (putRow (Value.int .i64) (Sort.ahead w n) b off zs.toArray) os).heap.size := by
 show w.heap.size ≤ (w.heap.modify b (onCells _) ++ os).size; rw [Array.size_append, Array.size_modify]; omega
theorem FA {c : Cz} {w : World} {mu : Mu} {n : Nat} {os : Array Obj} {b off : Nat} (hH : Handed c w mu) (hm : mu.m b) (zs : List Int) : yQ w mu c (grow (putRow (Value.int .i64) (Sort.ahead w n) b off zs.toArray) os) :=
 ⟨fun b' l kt => ⟨Nat.lt_of_lt_of_le (hH.lt b' l kt) (yu zs), (hH.lb b' l kt).imp id fun hh => .inr ((hH.m b').2 ⟨l, kt, hh⟩)⟩, fun b' _ kt => .inr ((hH.ok b').2 kt), ⟨rfl, rfl, rfl, yu zs⟩, fun k hk hkm => Hf zs hk (fun e => hkm (e ▸ hm))⟩
theorem C1 {w : World} {ok : Nat → Prop} {n : Nat} {os : Array Obj} {b off : Nat} {cur : Array Value} {ty : TypeId} (hb : w.heap[b]? = some (.cells cur ty (0, 0))) (zs : List Int) (hs : off + zs.length ≤ cur.size) {ys : List Int} (hy : ys <+: zs) :
   ∀ i (x : ak gh), (show List (ak gh) from aN ys)[i]? = some x → bU (grow (putRow (Value.int .i64) (Sort.ahead w n) b off zs.toArray) os) ok gh b (off + i * gh.width) x := by
 intro i x hi; have N6 : i < (aN ys).length := (List.getElem?_eq_some_iff.1 hi).1; have hil : i < ys.length := by rw [bJ] at N6; exact N6
 have hiz : i < zs.length := Nat.lt_of_lt_of_le hil hy.length_le; have hx : (aN ys)[i] = x := (List.getElem?_eq_some_iff.1 hi).2; have GK : x.1 = ys[i] := by
   rw [← hx]; exact congrArg Prod.fst (He ys i N6)
 have hyz : ys[i] = zs[i] := by
   obtain ⟨t, rfl⟩ := hy; exact (List.getElem_append_left hil).symm
 have e : off + i * gh.width = off + i := by show off + i * 1 = off + i; omega
 rw [e]; show bU _ ok (.cons (.int .i64) .nil) b (off + i) x; unfold bU; refine ⟨⟨.int .i64 ys[i], ?_, oK.2 (congrArg (Value.int .i64) GK.symm)⟩, by unfold bU; trivial⟩; unfold World.cell?; simp only [vR hb zs]; have bQ : off + i < cur.size := by omega
 simp only [_root_.Go.Sort.putCells, Array.getElem?_mapIdx, Array.getElem?_eq_getElem bQ, Option.map_some]; rw [if_neg (by simp), Option.some.injEq, if_pos ⟨by omega, by simp; omega⟩, show off + i - off = i by omega, getElem!_pos _ i (by simpa using hiz)]; simp [hyz]
theorem Bc {p : AP} {cT : List AV} {x : ak (ar ([p].map some))} (h : ey [p] cT = some x) : ∃ a, cT = [a] ∧ CK p .nil a () = some x := by
 match cT, h with
 | [], h => cases h
 | [a], h => exact ⟨a, rfl, h⟩
 | a :: b :: l, h => cases h
theorem Hg {p : OP} {t : RT} {os : List OV} {y : ak t} {x : ak (j2 [p] t)} (h : cI [p] t os y = some x) : ∃ o z, os = [o] ∧ oW p o = some z ∧ x = (z, y) := by
 match os, h with
 | [], h => cases h
 | [o], h =>
   unfold cI cI at h
   cases hc : oW p o with
   | none => rw [hc] at h; cases h
   | some z =>
     rw [hc] at h; injection h with h; exact ⟨o, z, rfl, hc, h.symm⟩
 | a :: b :: l, h =>
   exfalso
   unfold cI cI at h
   cases hc : oW p a <;> rw [hc] at h <;> cases h
def Be (xs : List (Int × Unit)) : Option ((List (Int × Unit)) × Unit) := bif Nat.ble xs.length lim then some (aN ((aZ xs).mergeSort fun x y => decide (x ≤ y)), ()) else none
theorem Hh {P : Program} {ρ : Ren} (L : Lays.n189 P ρ) {f : Nat} (hf : ρ.f 189 = f) (JC : ∃ fn, P.funcs[f]? = some fn ∧ (fn.name == "runtime.NumGoroutine") = false ∧ fn.body.isNone = false) :
   nS P f (j4 [.io gh] [] (fun x => Be x.1)) := by
 refine ⟨?_, JC⟩; intro c w mu lc cT args A y hH hA hs ho; unfold j4 at hs
 cases hx : ey [.io gh] cT with
 | none => rw [hx] at hs; cases hs
 | some x =>
   rw [hx] at hs; simp only [Option.some.injEq] at hs; subst hs; obtain ⟨a0, rfl, hq⟩ := Bc hx; clear hx
   cases a0 with
   | val _ _ => cases hq
   | box _ => cases hq
   | bp _ => cases hq
   | io A0 =>
     obtain ⟨v, l, ha, hv, hl⟩ := hA; have hl : l = [] := hl; subst hl; have ha : args = #[v] := Array.toList_inj.1 ha; subst ha; obtain ⟨r0, o0, m7, Q7⟩ := A0; unfold CK at hq; obtain ⟨uY, GL⟩ := aD hq; clear hq; have uY := Md.kq.1 uY; subst uY
     cases hc : bo gh m7 with
     | none => simp [hc] at GL
     | some xs =>
       simp only [hc] at GL; injection GL with hq; obtain ⟨e, he⟩ := aX hc
       cases e
       have he : xs = m7 := he; rw [he] at hq; subst hq; have zQ : Be m7 = some y := ho; unfold Be at zQ; obtain ⟨hb, zQ⟩ := aD zQ; have Dz := Nat.le_of_ble_eq_true hb; unfold lim at Dz; injection zQ with zQ; subst zQ; obtain ⟨h1, h2, h3, h4⟩ : OwnAt c w (.bG 0 0) (lc 0 0) { r := gh, own := o0, xs := m7 } v := hv; have h3 : o0 = true := h3; subst h3; have IW : ((aZ m7).mergeSort fun x y => decide (x ≤ y)).length = m7.length := by rw [List.length_mergeSort]; exact gw m7
       have fin : ∀ (w' : World), yQ w mu c w' → OwnAt c w' (.bG 0 0) (lc 0 0) { r := gh, own := true, xs := aN ((aZ m7).mergeSort fun x y => decide (x ≤ y)) } v →
           ∃ v', Ending.returned (.tuple #[]) = .returned v' ∧ ∃ c', yQ w mu c' w' ∧ oR c' w' [] v' ∧ gd c' w' lc 0 [.io { r := gh, own := true, xs := m7 }] [v] [.io { r := gh, own := true, xs := aN ((aZ m7).mergeSort fun x y => decide (x ≤ y)) }] :=
         fun w' yl eK => ⟨_, rfl, c, yl, .inr ⟨by simp, #[], rfl, rfl⟩, _, _, rfl, rfl, (bJ _).trans IW, eK, rfl⟩
       have FB : yQ w mu c w := ⟨fun b l hb => ⟨hH.lt b l hb, (hH.lb b l hb).imp id fun hh => .inr ((hH.m b).2 ⟨l, hb, hh⟩)⟩, fun b _ hb => .inr ((hH.ok b).2 hb), ⟨rfl, rfl, rfl, Nat.le_refl _⟩, fun _ _ _ => rfl⟩
       by_cases fm : m7 = []
       · -- nothing to sort
         subst fm; have hz : ∃ a cp, v = .slice a 0 cp := by
           unfold gP at h2
           split at h2
           · exact ⟨none, 0, h2.1⟩
           · obtain ⟨a, cp, hv, _⟩ := h2; exact ⟨some a, cp, hv⟩
         obtain ⟨a, cp, rfl⟩ := hz; have j1 := Any.slices_Sort_int_none L a cp w; rw [hf] at j1; refine j1.mono fun e w' ⟨he, hw⟩ => ?_
         subst he; subst hw; refine fin w' FB ?_; have key : ∀ ys : List (ak gh), ys = [] → OwnAt c w' (.bG 0 0) (lc 0 0) { r := gh, own := true, xs := ys } (.slice a 0 cp) := by
           intro ys e; subst e; exact ⟨h1, h2, rfl, h4⟩
         exact key _ (List.length_eq_zero_iff.1 ((bJ _).trans IW))
       · generalize fO : lc 0 0 = loc at *
         cases loc with
         | nil => exact absurd h4 fm
         | «at» b off cap =>
           obtain ⟨g1, g2, ⟨cur, ty, g3, g4⟩, g5⟩ := h4; obtain ⟨a, cp, rfl, k1, k2, k3⟩ := h2; have LJ : 0 < m7.length := List.length_pos_iff.2 fm; have k1 : m7.length ≤ cp := k1; have ha := k3 (by omega); have ha : a = ⟨b, off, none⟩ := ha.trans (by rw [Nat.zero_mul]; rfl); subst ha; have bQ : b < w.heap.size := (Array.getElem?_eq_some_iff.1 g3).1; have jB : off + m7.length ≤ cur.size := by
             have g2 : m7.length ≤ cap := g2; have g4 : off + cap * 1 ≤ cur.size := g4; omega
           have j1 := Any.slices_Sort_int L b off cp (aZ m7) w (Bb g3 ((bj.sh rfl).1 g5)) bQ (by rw [gw m7]; omega); rw [hf] at j1; have hlen : (aZ m7).length = m7.length := gw m7; rw [hlen] at j1; refine j1.mono fun e w' ⟨he, n, os, hw⟩ => ?_
           subst he; subst hw; have OE : off + ((aZ m7).mergeSort fun x y => decide (x ≤ y)).length ≤ cur.size := by rw [IW]; exact jB
           have hm : mu.m b := (hH.m b).2 ⟨_, g1, rfl⟩; refine fin _ (FA hH hm _) ?_; have FD : (aN ((aZ m7).mergeSort fun x y => decide (x ≤ y))).length = m7.length := (bJ _).trans IW; refine ⟨h1, ⟨_, cp, congrArg (fun n => Value.slice (some ⟨b, off, none⟩) n cp) FD.symm, Nat.le_trans (Nat.le_of_eq FD) k1, k2, k3⟩, rfl, g1, ?_, ⟨_, ty, vR g3 _, ?_⟩, (bj.sh rfl).2 (C1 g3 _ OE (List.prefix_refl _))⟩
           · exact Nat.le_trans (Nat.le_of_eq FD) g2
           · show off + cap * 1 ≤ _; simp only [_root_.Go.Sort.putCells, Array.size_mapIdx]; exact g4
def ll (xs : List (Int × Unit)) : Option ((List (Int × Unit)) × Unit) := bif Nat.ble xs.length lim then some (aN (Lib.compact (aZ xs)), ()) else none
theorem FE (zs : List Int) : (Lib.compact zs).length ≤ zs.length := by
 unfold Lib.compact Lib.compactUpTo; rw [List.length_map]; exact Nat.le_trans (List.length_filter_le _ _) (by simp)
def Cz.one (c : Cz) (b : Nat) (l : Lb) : Cz := { c with own := fun b' => if b' = b then some l else c.own b' }
theorem yQ.one {c : Cz} {w w' : World} {mu : Mu} {b : Nat} {l : Lb} (h : yQ w mu c w') (hm : mu.m b) (hb : b < w'.heap.size) : yQ w mu (c.one b l) w' := by
 refine ⟨fun b' l' h' => ?_, fun b' bQ h' => ?_, h.kept, h.old⟩
 · have h' : (if b' = b then some l else c.own b') = some l' := h'
   by_cases e : b' = b
   · subst e; exact ⟨hb, .inr (.inr hm)⟩
   · rw [if_neg e] at h'; exact h.owned b' l' h'
 · have h' : (if b' = b then some l else c.own b') = none := h'
   by_cases e : b' = b
   · rw [if_pos e] at h'; cases h'
   · rw [if_neg e] at h'; exact h.free b' bQ h'
theorem B4 {P : Program} {ρ : Ren} (L : Lays2.n20 P ρ) {f : Nat} (hf : ρ.f 20 = f) (JC : ∃ fn, P.funcs[f]? = some fn ∧ (fn.name == "runtime.NumGoroutine") = false ∧ fn.body.isNone = false) :
   nS P f (j4 [.val false [.own gh]] [{ src := .tmp 0, agg := false, ps := [.own gh] }] (fun x => ll x.1)) := by
 refine ⟨?_, JC⟩; intro c w mu lc cT args A y hH hA hs ho; unfold j4 at hs
 cases hx : ey [.val false [.own gh]] cT with
 | none => rw [hx] at hs; cases hs
 | some x =>
   rw [hx] at hs; simp only [Option.some.injEq] at hs; subst hs; have FB : yQ w mu c w := ⟨fun b l hb => ⟨hH.lt b l hb, (hH.lb b l hb).imp id fun hh => .inr ((hH.m b).2 ⟨l, hb, hh⟩)⟩, fun b _ hb => .inr ((hH.ok b).2 hb), ⟨rfl, rfl, rfl, Nat.le_refl _⟩, fun _ _ _ => rfl⟩; have empty : ∀ a cp, Calls P f #[.slice a 0 cp] w fun e w' => e = .returned (.slice a 0 cp) ∧ w' = w := fun a cp => by
     have j1 := calls_of_every_depth fun D => AnyS.slices_Compact_int_empty_in L D a cp w
     rw [hf] at j1; exact j1
   have Yj : ∀ (os : List OV) (v : Value) (c' : Cz) (w' : World) (loc : Loc) (u : Value) (ys : List (ak gh)), yQ w mu c' w' → OwnAt c' w' (.gp 0) loc { r := gh, own := true, xs := ys } u →
       ∃ v', Ending.returned u = .returned v' ∧ ∃ c', yQ w mu c' w' ∧ oR c' w' [.one (.own { r := gh, own := true, xs := ys })] v' ∧ gd c' w' lc 0 [.val false os] [v] [] :=
     fun os v c' w' loc u ys hb eK => ⟨u, rfl, c', hb, .inl ⟨_, rfl, u, [], rfl, ⟨u, [], rfl, ⟨loc, eK⟩, rfl⟩, rfl⟩, rfl⟩
   obtain ⟨a0, rfl, hq⟩ := Bc hx; clear hx
   cases a0 with
   | io _ => cases hq
   | box _ => cases hq
   | bp _ => cases hq
   | val ag os =>
   cases ag with
   | true => cases hq
   | false =>
   obtain ⟨o, z, rfl, hz, BX⟩ := Hg hq; clear hq
   cases o with
   | int _ _ => cases hz
   | bool _ => cases hz
   | str _ => cases hz
   | shr _ _ => cases hz
   | ke _ _ => cases hz
   | fn _ _ _ => cases hz
   | dq =>
     obtain ⟨v, l, ha, hv, hl⟩ := hA; have hl : l = [] := hl; subst hl; have ha : args = #[v] := Array.toList_inj.1 ha; subst ha; obtain ⟨l', lK, _⟩ := hv; injection lK with lK _; subst lK; injection hz with hz; subst hz; subst BX; have zQ : ll [] = some y := ho; have hy : y = ([], ()) := by
       have : ll [] = some ([], ()) := rfl; rw [this] at zQ; injection zQ with zQ; exact zQ.symm
     subst hy; refine (empty none 0).mono fun e w' ⟨he, hw⟩ => ?_
     subst he; subst hw; exact Yj _ _ c _ .nil _ [] FB ⟨rfl, ⟨rfl, rfl⟩, rfl, rfl⟩
   | own A0 =>
     obtain ⟨v, l, ha, hv, hl⟩ := hA; have hl : l = [] := hl; subst hl; have ha : args = #[v] := Array.toList_inj.1 ha; subst ha; obtain ⟨v1, l', lK, ⟨loc, GX⟩, _⟩ := hv; injection lK with lK _; subst lK; obtain ⟨r0, o0, m7, Q7⟩ := A0; have hz : (bif Q7.is .sh then bo gh m7 else none) = some z := hz; obtain ⟨uY, hz⟩ := aD hz; have uY := Md.kq.1 uY; subst uY
     cases hc : bo gh m7 with
     | none => rw [hc] at hz; cases hz
     | some xs =>
       have hzx : xs = z := Option.some.inj (hc.symm.trans hz); obtain ⟨e, he⟩ := aX hc
       cases e
       have he : xs = m7 := he; rw [← hzx, he] at BX; subst BX; have zQ : ll m7 = some y := ho; unfold ll at zQ; obtain ⟨hb, zQ⟩ := aD zQ; have Dz := Nat.le_of_ble_eq_true hb; unfold lim at Dz; injection zQ with zQ; subst zQ; obtain ⟨h1, h2, h3, h4⟩ := GX
       by_cases fm : m7 = []
       · subst fm
         cases loc with
         | nil =>
           obtain ⟨h2, _⟩ := h2; subst h2; refine (empty none 0).mono fun e w' ⟨he, hw⟩ => ?_
           subst he; subst hw; exact Yj _ _ c _ .nil _ [] FB ⟨rfl, ⟨rfl, rfl⟩, rfl, rfl⟩
         | «at» b off cap =>
           obtain ⟨g1, g2, ⟨cur, ty, g3, g4⟩, g5⟩ := h4; obtain ⟨a, cp, V1, k1, k2, k3⟩ := h2; have V1 : v = .slice (some a) 0 cp := V1; subst V1; have bQ : b < w.heap.size := (Array.getElem?_eq_some_iff.1 g3).1; refine (empty (some a) cp).mono fun e w' ⟨he, hw⟩ => ?_
           subst he; subst hw; exact Yj _ _ (c.one b (.gp 0)) _ (.at b off cap) _ [] (FB.one ((hH.m b).2 ⟨_, g1, rfl⟩) bQ) ⟨rfl, ⟨a, cp, rfl, k1, k2, k3⟩, rfl, if_pos rfl, Nat.zero_le _, ⟨cur, ty, g3, g4⟩, (bj.sh rfl).2 fun i x hi => by simp at hi⟩
       · cases loc with
         | nil => exact absurd h4 fm
         | «at» b off cap =>
           obtain ⟨g1, g2, ⟨cur, ty, g3, g4⟩, g5⟩ := h4; obtain ⟨a, cp, V1, k1, k2, k3⟩ := h2; subst V1; have LJ : 0 < m7.length := List.length_pos_iff.2 fm; have k1 : m7.length ≤ cp := k1; have ha := k3 (by omega); have ha : a = ⟨b, off, none⟩ := ha.trans (by rw [Nat.zero_mul]; rfl); subst ha; have bQ : b < w.heap.size := (Array.getElem?_eq_some_iff.1 g3).1; have jB : off + m7.length ≤ cur.size := by
             have g2 : m7.length ≤ cap := g2; have g4 : off + cap * 1 ≤ cur.size := g4; omega
           have hlen : (aZ m7).length = m7.length := gw m7; have j1 := calls_of_every_depth fun D => AnyS.slices_Compact_int_in L D b off cp (aZ m7) w (Bb g3 ((bj.sh rfl).1 g5)) (Nat.le_trans (Nat.le_of_eq (gw m7)) (Nat.le_trans Dz (by decide))) (Nat.le_trans (Nat.le_of_eq (gw m7)) k1)
           rw [hf, hlen] at j1; have oO := FE (aZ m7); rw [hlen] at oO; refine j1.mono fun e w' ⟨he, q, hw⟩ => ?_
           subst he; rw [← grow_empty (putRow _ _ _ _ _)] at hw; subst hw; have hm : mu.m b := (hH.m b).2 ⟨_, g1, rfl⟩; have OE : off + (Lib.compact (aZ m7) ++ List.replicate (m7.length - (Lib.compact (aZ m7)).length) 0).length ≤ cur.size := by
             rw [List.length_append, List.length_replicate]; omega
           have yl : yQ w mu c (grow (putRow (Value.int .i64) (Sort.ahead w q) b off (Lib.compact (aZ m7) ++ List.replicate (m7.length - (Lib.compact (aZ m7)).length) 0).toArray) #[]) := FA hH hm _; refine Yj _ _ (c.one b (.gp 0)) _ (.at b off cap) _ _ (yl.one hm (Nat.lt_of_lt_of_le bQ (yu _))) ⟨rfl, ⟨_, cp, congrArg (fun n => Value.slice (some ⟨b, off, none⟩) n cp) (bJ _).symm, Nat.le_trans (Nat.le_of_eq (bJ _)) (Nat.le_trans oO k1), k2, k3⟩, rfl, if_pos rfl, ?_, ⟨_, ty, vR g3 _, ?_⟩, C1 g3 _ OE (List.prefix_append _ _)⟩
           · exact Nat.le_trans (Nat.le_of_eq (bJ _)) (Nat.le_trans oO g2)
           · show off + cap * 1 ≤ _; simp only [_root_.Go.Sort.putCells, Array.size_mapIdx]; exact g4
end Go.TM
