/- slices.Sort and slices.Compact at whole numbers, of the kit's library of contracts, as functions of the tree machine. -/
import Derived.Test.YtiljcjnnhkidbaaLibWide
import Derived.Shelf.Sort.Plain
import Derived.Shelf.Slices.In.SortNone
import Derived.Shelf.Slices.In.CompactI
namespace Go.TM
open Go Go.RowKit Go.Proofs Go.Shelf Go.Sort
abbrev gh : RT := .cons (.int .i64) .nil
def aZ (xs : List (Int × Unit)) : List Int := xs.map (·.1)
def aN (zs : List Int) : List (Int × Unit) := zs.map fun z => (z, ())
theorem bJ (zs : List Int) : (aN zs).length = zs.length := List.length_map ..
theorem gv (xs : List (Int × Unit)) : (aZ xs).length = xs.length := List.length_map ..
theorem GO (xs : List (Int × Unit)) (j : Nat) (h : j < (aZ xs).length) : (aZ xs)[j] = (xs[j]'(by rw [gv] at h; exact h)).1 := List.getElem_map ..
theorem GP (zs : List Int) (j : Nat) (h : j < (aN zs).length) : (aN zs)[j] = (zs[j]'(by rw [bJ] at h; exact h), ()) := List.getElem_map ..
theorem A4 {w : World} {ok : Nat → Prop} {b off : Nat} {cur : Array Value} {ty : TypeId} {xs : List (ak gh)} (hb : w.heap[b]? = some (.cells cur ty (0, 0))) (hx : ∀ i x, xs[i]? = some x → bU w ok gh b (off + i * gh.width) x) :
   Holds (Value.int .i64) w b off (aZ xs).toArray := by
 intro j hj; have Ns : j < (aZ xs).length := hj; have hlen : (aZ xs).length = List.length (α := ak gh) xs := gv xs; have Lq : j < List.length (α := ak gh) xs := by omega
 have h1 : bU w ok (.cons (.int .i64) .nil) b (off + j * gh.width) (xs[j]'Lq) := hx j _ (List.getElem?_eq_getElem Lq); unfold bU at h1; obtain ⟨⟨v, h2, h3⟩, _⟩ := h1; have h3 := oM.1 h3; subst h3; have e : off + j * gh.width = off + j := by show off + j * 1 = off + j; omega
 rw [e] at h2; refine ⟨?_, ?_⟩
 · rw [h2, getElem!_pos (aZ xs).toArray j hj]; exact congrArg (fun z => some (Value.int .i64 z)) (GO xs j Ns).symm
 · unfold World.frozen?; simp only [hb]; simp
theorem vP {w : World} {n : Nat} {os : Array Obj} {b off : Nat} {cur : Array Value} {ty : TypeId} (hb : w.heap[b]? = some (.cells cur ty (0, 0))) (zs : List Int) :
   (grow (putRow (Value.int .i64) (Sort.ahead w n) b off zs.toArray) os).heap[b]? = some (.cells (_root_.Go.Sort.putCells (Value.int .i64) off zs.toArray cur) ty (0, 0)) := by
 have bP : b < w.heap.size := (Array.getElem?_eq_some_iff.1 hb).1; show (w.heap.modify b (onCells _) ++ os)[b]? = _; rw [Array.getElem?_append_left (by simpa using bP), Array.getElem?_modify, if_pos rfl, hb]; rfl
theorem GQ {w : World} {n : Nat} {os : Array Obj} {b off : Nat} (zs : List Int) {k : Nat} (hk : k < w.heap.size) (fk : k ≠ b) :
   (grow (putRow (Value.int .i64) (Sort.ahead w n) b off zs.toArray) os).heap[k]? = w.heap[k]? := by
 show (w.heap.modify b (onCells _) ++ os)[k]? = _; rw [Array.getElem?_append_left (by simpa using hk), Array.getElem?_modify, if_neg (Ne.symm fk)]
theorem yp {w : World} {n : Nat} {os : Array Obj} {b off : Nat} (zs : List Int) : w.heap.size ≤ (grow (putRow (Value.int .i64) (Sort.ahead w n) b off zs.toArray) os).heap.size := by
 show w.heap.size ≤ (w.heap.modify b (onCells _) ++ os).size; rw [Array.size_append, Array.size_modify]; omega
theorem Fc {c : Cz} {w : World} {mu : Mu} {n : Nat} {os : Array Obj} {b off : Nat} (hH : Handed c w mu) (hm : mu.m b) (zs : List Int) : yL w mu c (grow (putRow (Value.int .i64) (Sort.ahead w n) b off zs.toArray) os) :=
 ⟨fun b' l kj => ⟨Nat.lt_of_lt_of_le (hH.lt b' l kj) (yp zs), (hH.lb b' l kj).imp id fun hh => .inr ((hH.m b').2 ⟨l, kj, hh⟩)⟩, fun b' _ kj => .inr ((hH.ok b').2 kj), ⟨rfl, rfl, rfl, yp zs⟩, fun k hk hkm => GQ zs hk (fun e => hkm (e ▸ hm))⟩
theorem CN {w : World} {ok : Nat → Prop} {n : Nat} {os : Array Obj} {b off : Nat} {cur : Array Value} {ty : TypeId} (hb : w.heap[b]? = some (.cells cur ty (0, 0))) (zs : List Int) (hs : off + zs.length ≤ cur.size) {ys : List Int} (hy : ys <+: zs) :
   ∀ i (x : ak gh), (show List (ak gh) from aN ys)[i]? = some x → bU (grow (putRow (Value.int .i64) (Sort.ahead w n) b off zs.toArray) os) ok gh b (off + i * gh.width) x := by
 intro i x hi; have No : i < (aN ys).length := (List.getElem?_eq_some_iff.1 hi).1; have hil : i < ys.length := by rw [bJ] at No; exact No
 have hiz : i < zs.length := Nat.lt_of_lt_of_le hil hy.length_le; have hx : (aN ys)[i] = x := (List.getElem?_eq_some_iff.1 hi).2; have Gk : x.1 = ys[i] := by
   rw [← hx]; exact congrArg Prod.fst (GP ys i No)
 have hyz : ys[i] = zs[i] := by
   obtain ⟨t, rfl⟩ := hy; exact (List.getElem_append_left hil).symm
 have e : off + i * gh.width = off + i := by show off + i * 1 = off + i; omega
 rw [e]; show bU _ ok (.cons (.int .i64) .nil) b (off + i) x; unfold bU; refine ⟨⟨.int .i64 ys[i], ?_, oM.2 (congrArg (Value.int .i64) Gk.symm)⟩, by unfold bU; trivial⟩; unfold World.cell?; simp only [vP hb zs]; have bP : off + i < cur.size := by omega
 simp only [_root_.Go.Sort.putCells, Array.getElem?_mapIdx, Array.getElem?_eq_getElem bP, Option.map_some]; rw [if_neg (by simp), Option.some.injEq, if_pos ⟨by omega, by simp; omega⟩, show off + i - off = i by omega, getElem!_pos _ i (by simpa using hiz)]; simp [hyz]
theorem A5 {p : AP} {cN : List AV} {x : ak (ar ([p].map some))} (h : eo [p] cN = some x) : ∃ a, cN = [a] ∧ Cw p .nil a () = some x := by
 match cN, h with
 | [], h => cases h
 | [a], h => exact ⟨a, rfl, h⟩
 | a :: b :: l, h => cases h
theorem GR {p : OP} {t : RT} {os : List OV} {y : ak t} {x : ak (jT [p] t)} (h : cB [p] t os y = some x) : ∃ o z, os = [o] ∧ oY p o = some z ∧ x = (z, y) := by
 match os, h with
 | [], h => cases h
 | [o], h =>
   unfold cB cB at h
   cases hc : oY p o with
   | none => rw [hc] at h; cases h
   | some z =>
     rw [hc] at h; injection h with h; exact ⟨o, z, rfl, hc, h.symm⟩
 | a :: b :: l, h =>
   exfalso
   unfold cB cB at h
   cases hc : oY p a <;> rw [hc] at h <;> cases h
def A6 (xs : List (Int × Unit)) : Option ((List (Int × Unit)) × Unit) := bif Nat.ble xs.length lim then some (aN ((aZ xs).mergeSort fun x y => decide (x ≤ y)), ()) else none
theorem GS {P : Program} {ρ : Ren} (L : Lays.n189 P ρ) {f : Nat} (hf : ρ.f 189 = f) (Je : ∃ fn, P.funcs[f]? = some fn ∧ (fn.name == "runtime.NumGoroutine") = false ∧ fn.body.isNone = false) :
   nS P f (jV [.io gh] [] (fun x => A6 x.1)) := by
 refine ⟨?_, Je⟩; intro c w mu lc cN args A y hH hA hs ho; unfold jV at hs
 cases hx : eo [.io gh] cN with
 | none => rw [hx] at hs; cases hs
 | some x =>
   rw [hx] at hs; simp only [Option.some.injEq] at hs; subst hs; obtain ⟨a0, rfl, hq⟩ := A5 hx; clear hx
   cases a0 with
   | val _ _ => cases hq
   | box _ => cases hq
   | bo _ => cases hq
   | io A0 =>
     obtain ⟨v, l, ha, hv, hl⟩ := hA; have hl : l = [] := hl; subst hl; have ha : args = #[v] := Array.toList_inj.1 ha; subst ha; obtain ⟨r0, o0, m6, Qq⟩ := A0; unfold Cw at hq; obtain ⟨uV, Gl⟩ := aD hq; clear hq; have uV := Md.kh.1 uV; subst uV
     cases hc : bn gh m6 with
     | none => simp [hc] at Gl
     | some xs =>
       simp only [hc] at Gl; injection Gl with hq; obtain ⟨e, he⟩ := aX hc
       cases e
       have he : xs = m6 := he; rw [he] at hq; subst hq; have zJ : A6 m6 = some y := ho; unfold A6 at zJ; obtain ⟨hb, zJ⟩ := aD zJ; have Dh := Nat.le_of_ble_eq_true hb; unfold lim at Dh; injection zJ with zJ; subst zJ; obtain ⟨h1, h2, h3, h4⟩ : OwnAt c w (.bB 0 0) (lc 0 0) { r := gh, own := o0, xs := m6 } v := hv; have h3 : o0 = true := h3; subst h3; have Iw : ((aZ m6).mergeSort fun x y => decide (x ≤ y)).length = m6.length := by rw [List.length_mergeSort]; exact gv m6
       have fin : ∀ (w' : World), yL w mu c w' → OwnAt c w' (.bB 0 0) (lc 0 0) { r := gh, own := true, xs := aN ((aZ m6).mergeSort fun x y => decide (x ≤ y)) } v →
           ∃ v', Ending.returned (.tuple #[]) = .returned v' ∧ ∃ c', yL w mu c' w' ∧ oT c' w' [] v' ∧ gd c' w' lc 0 [.io { r := gh, own := true, xs := m6 }] [v] [.io { r := gh, own := true, xs := aN ((aZ m6).mergeSort fun x y => decide (x ≤ y)) }] :=
         fun w' yd eH => ⟨_, rfl, c, yd, .inr ⟨by simp, #[], rfl, rfl⟩, _, _, rfl, rfl, (bJ _).trans Iw, eH, rfl⟩
       have Fe : yL w mu c w := ⟨fun b l hb => ⟨hH.lt b l hb, (hH.lb b l hb).imp id fun hh => .inr ((hH.m b).2 ⟨l, hb, hh⟩)⟩, fun b _ hb => .inr ((hH.ok b).2 hb), ⟨rfl, rfl, rfl, Nat.le_refl _⟩, fun _ _ _ => rfl⟩
       by_cases fk : m6 = []
       · -- nothing to sort
         subst fk; have hz : ∃ a cp, v = .slice a 0 cp := by
           unfold gP at h2
           split at h2
           · exact ⟨none, 0, h2.1⟩
           · obtain ⟨a, cp, hv, _⟩ := h2; exact ⟨some a, cp, hv⟩
         obtain ⟨a, cp, rfl⟩ := hz; have jS := Any.slices_Sort_int_none L a cp w; rw [hf] at jS; refine jS.mono fun e w' ⟨he, hw⟩ => ?_
         subst he; subst hw; refine fin w' Fe ?_; have key : ∀ ys : List (ak gh), ys = [] → OwnAt c w' (.bB 0 0) (lc 0 0) { r := gh, own := true, xs := ys } (.slice a 0 cp) := by
           intro ys e; subst e; exact ⟨h1, h2, rfl, h4⟩
         exact key _ (List.length_eq_zero_iff.1 ((bJ _).trans Iw))
       · generalize fN : lc 0 0 = loc at *
         cases loc with
         | nil => exact absurd h4 fk
         | «at» b off cap =>
           obtain ⟨g1, g2, ⟨cur, ty, g3, g4⟩, g5⟩ := h4; obtain ⟨a, cp, rfl, k1, k2, k3⟩ := h2; have KZ : 0 < m6.length := List.length_pos_iff.2 fk; have k1 : m6.length ≤ cp := k1; have ha := k3 (by omega); have ha : a = ⟨b, off, none⟩ := ha.trans (by rw [Nat.zero_mul]; rfl); subst ha; have bP : b < w.heap.size := (Array.getElem?_eq_some_iff.1 g3).1; have jv : off + m6.length ≤ cur.size := by
             have g2 : m6.length ≤ cap := g2; have g4 : off + cap * 1 ≤ cur.size := g4; omega
           have jS := Any.slices_Sort_int L b off cp (aZ m6) w (A4 g3 ((bh.sh rfl).1 g5)) bP (by rw [gv m6]; omega); rw [hf] at jS; have hlen : (aZ m6).length = m6.length := gv m6; rw [hlen] at jS; refine jS.mono fun e w' ⟨he, n, os, hw⟩ => ?_
           subst he; subst hw; have NR : off + ((aZ m6).mergeSort fun x y => decide (x ≤ y)).length ≤ cur.size := by rw [Iw]; exact jv
           have hm : mu.m b := (hH.m b).2 ⟨_, g1, rfl⟩; refine fin _ (Fc hH hm _) ?_; have Ff : (aN ((aZ m6).mergeSort fun x y => decide (x ≤ y))).length = m6.length := (bJ _).trans Iw; refine ⟨h1, ⟨_, cp, congrArg (fun n => Value.slice (some ⟨b, off, none⟩) n cp) Ff.symm, Nat.le_trans (Nat.le_of_eq Ff) k1, k2, k3⟩, rfl, g1, ?_, ⟨_, ty, vP g3 _, ?_⟩, (bh.sh rfl).2 (CN g3 _ NR (List.prefix_refl _))⟩
           · exact Nat.le_trans (Nat.le_of_eq Ff) g2
           · show off + cap * 1 ≤ _; simp only [_root_.Go.Sort.putCells, Array.size_mapIdx]; exact g4
def lj (xs : List (Int × Unit)) : Option ((List (Int × Unit)) × Unit) := bif Nat.ble xs.length lim then some (aN (Lib.compact (aZ xs)), ()) else none
theorem Fg (zs : List Int) : (Lib.compact zs).length ≤ zs.length := by
 unfold Lib.compact Lib.compactUpTo; rw [List.length_map]; exact Nat.le_trans (List.length_filter_le _ _) (by simp)
def Cz.one (c : Cz) (b : Nat) (l : Lb) : Cz := { c with own := fun b' => if b' = b then some l else c.own b' }
theorem yL.one {c : Cz} {w w' : World} {mu : Mu} {b : Nat} {l : Lb} (h : yL w mu c w') (hm : mu.m b) (hb : b < w'.heap.size) : yL w mu (c.one b l) w' := by
 refine ⟨fun b' l' h' => ?_, fun b' bP h' => ?_, h.kept, h.old⟩
 · have h' : (if b' = b then some l else c.own b') = some l' := h'
   by_cases e : b' = b
   · subst e; exact ⟨hb, .inr (.inr hm)⟩
   · rw [if_neg e] at h'; exact h.owned b' l' h'
 · have h' : (if b' = b then some l else c.own b') = none := h'
   by_cases e : b' = b
   · rw [if_pos e] at h'; cases h'
   · rw [if_neg e] at h'; exact h.free b' bP h'
theorem BT {P : Program} {ρ : Ren} (L : Lays2.n20 P ρ) {f : Nat} (hf : ρ.f 20 = f) (Je : ∃ fn, P.funcs[f]? = some fn ∧ (fn.name == "runtime.NumGoroutine") = false ∧ fn.body.isNone = false) :
   nS P f (jV [.val false [.own gh]] [{ src := .tmp 0, agg := false, ps := [.own gh] }] (fun x => lj x.1)) := by
 refine ⟨?_, Je⟩; intro c w mu lc cN args A y hH hA hs ho; unfold jV at hs
 cases hx : eo [.val false [.own gh]] cN with
 | none => rw [hx] at hs; cases hs
 | some x =>
   rw [hx] at hs; simp only [Option.some.injEq] at hs; subst hs; have Fe : yL w mu c w := ⟨fun b l hb => ⟨hH.lt b l hb, (hH.lb b l hb).imp id fun hh => .inr ((hH.m b).2 ⟨l, hb, hh⟩)⟩, fun b _ hb => .inr ((hH.ok b).2 hb), ⟨rfl, rfl, rfl, Nat.le_refl _⟩, fun _ _ _ => rfl⟩; have empty : ∀ a cp, Calls P f #[.slice a 0 cp] w fun e w' => e = .returned (.slice a 0 cp) ∧ w' = w := fun a cp => by
     have jS := calls_of_every_depth fun D => AnyS.slices_Compact_int_empty_in L D a cp w
     rw [hf] at jS; exact jS
   have XF : ∀ (os : List OV) (v : Value) (c' : Cz) (w' : World) (loc : Loc) (u : Value) (ys : List (ak gh)), yL w mu c' w' → OwnAt c' w' (.gn 0) loc { r := gh, own := true, xs := ys } u →
       ∃ v', Ending.returned u = .returned v' ∧ ∃ c', yL w mu c' w' ∧ oT c' w' [.one (.own { r := gh, own := true, xs := ys })] v' ∧ gd c' w' lc 0 [.val false os] [v] [] :=
     fun os v c' w' loc u ys hb eH => ⟨u, rfl, c', hb, .inl ⟨_, rfl, u, [], rfl, ⟨u, [], rfl, ⟨loc, eH⟩, rfl⟩, rfl⟩, rfl⟩
   obtain ⟨a0, rfl, hq⟩ := A5 hx; clear hx
   cases a0 with
   | io _ => cases hq
   | box _ => cases hq
   | bo _ => cases hq
   | val ag os =>
   cases ag with
   | true => cases hq
   | false =>
   obtain ⟨o, z, rfl, hz, BO⟩ := GR hq; clear hq
   cases o with
   | int _ _ => cases hz
   | bool _ => cases hz
   | str _ => cases hz
   | shr _ _ => cases hz
   | j6 _ _ => cases hz
   | fn _ _ _ => cases hz
   | di =>
     obtain ⟨v, l, ha, hv, hl⟩ := hA; have hl : l = [] := hl; subst hl; have ha : args = #[v] := Array.toList_inj.1 ha; subst ha; obtain ⟨l', lH, _⟩ := hv; injection lH with lH _; subst lH; injection hz with hz; subst hz; subst BO; have zJ : lj [] = some y := ho; have hy : y = ([], ()) := by
       have : lj [] = some ([], ()) := rfl; rw [this] at zJ; injection zJ with zJ; exact zJ.symm
     subst hy; refine (empty none 0).mono fun e w' ⟨he, hw⟩ => ?_
     subst he; subst hw; exact XF _ _ c _ .nil _ [] Fe ⟨rfl, ⟨rfl, rfl⟩, rfl, rfl⟩
   | own A0 =>
     obtain ⟨v, l, ha, hv, hl⟩ := hA; have hl : l = [] := hl; subst hl; have ha : args = #[v] := Array.toList_inj.1 ha; subst ha; obtain ⟨v1, l', lH, ⟨loc, Gx⟩, _⟩ := hv; injection lH with lH _; subst lH; obtain ⟨r0, o0, m6, Qq⟩ := A0; have hz : (bif Qq.is .sh then bn gh m6 else none) = some z := hz; obtain ⟨uV, hz⟩ := aD hz; have uV := Md.kh.1 uV; subst uV
     cases hc : bn gh m6 with
     | none => rw [hc] at hz; cases hz
     | some xs =>
       have hzx : xs = z := Option.some.inj (hc.symm.trans hz); obtain ⟨e, he⟩ := aX hc
       cases e
       have he : xs = m6 := he; rw [← hzx, he] at BO; subst BO; have zJ : lj m6 = some y := ho; unfold lj at zJ; obtain ⟨hb, zJ⟩ := aD zJ; have Dh := Nat.le_of_ble_eq_true hb; unfold lim at Dh; injection zJ with zJ; subst zJ; obtain ⟨h1, h2, h3, h4⟩ := Gx
       by_cases fk : m6 = []
       · subst fk
         cases loc with
         | nil =>
           obtain ⟨h2, _⟩ := h2; subst h2; refine (empty none 0).mono fun e w' ⟨he, hw⟩ => ?_
           subst he; subst hw; exact XF _ _ c _ .nil _ [] Fe ⟨rfl, ⟨rfl, rfl⟩, rfl, rfl⟩
         | «at» b off cap =>
           obtain ⟨g1, g2, ⟨cur, ty, g3, g4⟩, g5⟩ := h4; obtain ⟨a, cp, UE, k1, k2, k3⟩ := h2; have UE : v = .slice (some a) 0 cp := UE; subst UE; have bP : b < w.heap.size := (Array.getElem?_eq_some_iff.1 g3).1; refine (empty (some a) cp).mono fun e w' ⟨he, hw⟩ => ?_
           subst he; subst hw; exact XF _ _ (c.one b (.gn 0)) _ (.at b off cap) _ [] (Fe.one ((hH.m b).2 ⟨_, g1, rfl⟩) bP) ⟨rfl, ⟨a, cp, rfl, k1, k2, k3⟩, rfl, if_pos rfl, Nat.zero_le _, ⟨cur, ty, g3, g4⟩, (bh.sh rfl).2 fun i x hi => by simp at hi⟩
       · cases loc with
         | nil => exact absurd h4 fk
         | «at» b off cap =>
           obtain ⟨g1, g2, ⟨cur, ty, g3, g4⟩, g5⟩ := h4; obtain ⟨a, cp, UE, k1, k2, k3⟩ := h2; subst UE; have KZ : 0 < m6.length := List.length_pos_iff.2 fk; have k1 : m6.length ≤ cp := k1; have ha := k3 (by omega); have ha : a = ⟨b, off, none⟩ := ha.trans (by rw [Nat.zero_mul]; rfl); subst ha; have bP : b < w.heap.size := (Array.getElem?_eq_some_iff.1 g3).1; have jv : off + m6.length ≤ cur.size := by
             have g2 : m6.length ≤ cap := g2; have g4 : off + cap * 1 ≤ cur.size := g4; omega
           have hlen : (aZ m6).length = m6.length := gv m6; have jS := calls_of_every_depth fun D => AnyS.slices_Compact_int_in L D b off cp (aZ m6) w (A4 g3 ((bh.sh rfl).1 g5)) (Nat.le_trans (Nat.le_of_eq (gv m6)) (Nat.le_trans Dh (by decide))) (Nat.le_trans (Nat.le_of_eq (gv m6)) k1)
           rw [hf, hlen] at jS; have oQ := Fg (aZ m6); rw [hlen] at oQ; refine jS.mono fun e w' ⟨he, q, hw⟩ => ?_
           subst he; rw [← grow_empty (putRow _ _ _ _ _)] at hw; subst hw; have hm : mu.m b := (hH.m b).2 ⟨_, g1, rfl⟩; have NR : off + (Lib.compact (aZ m6) ++ List.replicate (m6.length - (Lib.compact (aZ m6)).length) 0).length ≤ cur.size := by
             rw [List.length_append, List.length_replicate]; omega
           have yd : yL w mu c (grow (putRow (Value.int .i64) (Sort.ahead w q) b off (Lib.compact (aZ m6) ++ List.replicate (m6.length - (Lib.compact (aZ m6)).length) 0).toArray) #[]) := Fc hH hm _; refine XF _ _ (c.one b (.gn 0)) _ (.at b off cap) _ _ (yd.one hm (Nat.lt_of_lt_of_le bP (yp _))) ⟨rfl, ⟨_, cp, congrArg (fun n => Value.slice (some ⟨b, off, none⟩) n cp) (bJ _).symm, Nat.le_trans (Nat.le_of_eq (bJ _)) (Nat.le_trans oQ k1), k2, k3⟩, rfl, if_pos rfl, ?_, ⟨_, ty, vP g3 _, ?_⟩, CN g3 _ NR (List.prefix_append _ _)⟩
           · exact Nat.le_trans (Nat.le_of_eq (bJ _)) (Nat.le_trans oQ g2)
           · show off + cap * 1 ≤ _; simp only [_root_.Go.Sort.putCells, Array.size_mapIdx]; exact g4
end Go.TM
