/- slices.Sort and slices.Compact at whole numbers, of the kit's library of contracts, as functions of the tree machine. -/
import Derived.Test.YtiljcjnnhkidbaaLibWide
import Derived.Shelf.Sort.Plain
import Derived.Shelf.Slices.In.SortNone
import Derived.Shelf.Slices.In.CompactI
set_option linter.unusedSimpArgs false
set_option linter.unusedVariables false
namespace Go.TM
open Go Go.RowKit Go.Proofs Go.Shelf Go.Sort
abbrev IntRT : RT := .cons (.int .i64) .nil
def intsOf (xs : List (Int × Unit)) : List Int := xs.map (·.1)
def ofInts (zs : List Int) : List (Int × Unit) := zs.map fun z => (z, ())
theorem ofInts_len (zs : List Int) : (ofInts zs).length = zs.length := List.length_map ..
theorem intsOf_len (xs : List (Int × Unit)) : (intsOf xs).length = xs.length := List.length_map ..
theorem intsOf_get (xs : List (Int × Unit)) (j : Nat) (h : j < (intsOf xs).length) : (intsOf xs)[j] = (xs[j]'(by rw [intsOf_len] at h; exact h)).1 := List.getElem_map ..
theorem ofInts_get (zs : List Int) (j : Nat) (h : j < (ofInts zs).length) : (ofInts zs)[j] = (zs[j]'(by rw [ofInts_len] at h; exact h), ()) := List.getElem_map ..
theorem holds_ints {w : World} {ok : Nat → Prop} {b off : Nat} {cur : Array Value} {ty : TypeId} {xs : List (denR IntRT)} (hb : w.heap[b]? = some (.cells cur ty (0, 0))) (hx : ∀ i x, xs[i]? = some x → RepR w ok IntRT b (off + i * IntRT.width) x) :
   Holds (Value.int .i64) w b off (intsOf xs).toArray := by
 intro j hj; have hj1 : j < (intsOf xs).length := hj; have hlen : (intsOf xs).length = List.length (α := denR IntRT) xs := intsOf_len xs; have hj2 : j < List.length (α := denR IntRT) xs := by omega
 have h1 : RepR w ok (.cons (.int .i64) .nil) b (off + j * IntRT.width) (xs[j]'hj2) := hx j _ (List.getElem?_eq_getElem hj2); unfold RepR at h1; obtain ⟨⟨v, h2, h3⟩, _⟩ := h1; have h3 := repInt.1 h3; subst h3; have e : off + j * IntRT.width = off + j := by show off + j * 1 = off + j; omega
 rw [e] at h2; refine ⟨?_, ?_⟩
 · rw [h2, getElem!_pos (intsOf xs).toArray j hj]; exact congrArg (fun z => some (Value.int .i64 z)) (intsOf_get xs j hj1).symm
 · unfold World.frozen?; simp only [hb]; simp
theorem laid_block {w : World} {n : Nat} {os : Array Obj} {b off : Nat} {cur : Array Value} {ty : TypeId} (hb : w.heap[b]? = some (.cells cur ty (0, 0))) (zs : List Int) :
   (grow (putRow (Value.int .i64) (Sort.ahead w n) b off zs.toArray) os).heap[b]? = some (.cells (_root_.Go.Sort.putCells (Value.int .i64) off zs.toArray cur) ty (0, 0)) := by
 have hlt : b < w.heap.size := (Array.getElem?_eq_some_iff.1 hb).1; show (w.heap.modify b (onCells _) ++ os)[b]? = _; rw [Array.getElem?_append_left (by simpa using hlt), Array.getElem?_modify, if_pos rfl, hb]; rfl
theorem laid_other {w : World} {n : Nat} {os : Array Obj} {b off : Nat} (zs : List Int) {k : Nat} (hk : k < w.heap.size) (hne : k ≠ b) :
   (grow (putRow (Value.int .i64) (Sort.ahead w n) b off zs.toArray) os).heap[k]? = w.heap[k]? := by
 show (w.heap.modify b (onCells _) ++ os)[k]? = _; rw [Array.getElem?_append_left (by simpa using hk), Array.getElem?_modify, if_neg (Ne.symm hne)]
theorem laid_size {w : World} {n : Nat} {os : Array Obj} {b off : Nat} (zs : List Int) : w.heap.size ≤ (grow (putRow (Value.int .i64) (Sort.ahead w n) b off zs.toArray) os).heap.size := by
 show w.heap.size ≤ (w.heap.modify b (onCells _) ++ os).size; rw [Array.size_append, Array.size_modify]; omega
theorem laid_bas {c : Cz} {w : World} {mu : Mu} {n : Nat} {os : Array Obj} {b off : Nat} (hH : Handed c w mu) (hm : mu.m b) (zs : List Int) : Bas w mu c (grow (putRow (Value.int .i64) (Sort.ahead w n) b off zs.toArray) os) :=
 ⟨fun b' l hb' => ⟨Nat.lt_of_lt_of_le (hH.lt b' l hb') (laid_size zs), (hH.lb b' l hb').imp id fun hh => .inr ((hH.m b').2 ⟨l, hb', hh⟩)⟩, fun b' _ hb' => .inr ((hH.ok b').2 hb'), ⟨rfl, rfl, rfl, laid_size zs⟩, fun k hk hkm => laid_other zs hk (fun e => hkm (e ▸ hm))⟩
theorem laid_rows {w : World} {ok : Nat → Prop} {n : Nat} {os : Array Obj} {b off : Nat} {cur : Array Value} {ty : TypeId} (hb : w.heap[b]? = some (.cells cur ty (0, 0))) (zs : List Int) (hs : off + zs.length ≤ cur.size) {ys : List Int} (hy : ys <+: zs) :
   ∀ i (x : denR IntRT), (show List (denR IntRT) from ofInts ys)[i]? = some x → RepR (grow (putRow (Value.int .i64) (Sort.ahead w n) b off zs.toArray) os) ok IntRT b (off + i * IntRT.width) x := by
 intro i x hi; have hl1 : i < (ofInts ys).length := (List.getElem?_eq_some_iff.1 hi).1; have hil : i < ys.length := by rw [ofInts_len] at hl1; exact hl1
 have hiz : i < zs.length := Nat.lt_of_lt_of_le hil hy.length_le; have hx : (ofInts ys)[i] = x := (List.getElem?_eq_some_iff.1 hi).2; have hx1 : x.1 = ys[i] := by
   rw [← hx]; exact congrArg Prod.fst (ofInts_get ys i hl1)
 have hyz : ys[i] = zs[i] := by
   obtain ⟨t, rfl⟩ := hy; exact (List.getElem_append_left hil).symm
 have e : off + i * IntRT.width = off + i := by show off + i * 1 = off + i; omega
 rw [e]; show RepR _ ok (.cons (.int .i64) .nil) b (off + i) x; unfold RepR; refine ⟨⟨.int .i64 ys[i], ?_, repInt.2 (congrArg (Value.int .i64) hx1.symm)⟩, by unfold RepR; trivial⟩; unfold World.cell?; simp only [laid_block hb zs]; have hlt : off + i < cur.size := by omega
 simp only [_root_.Go.Sort.putCells, Array.getElem?_mapIdx, Array.getElem?_eq_getElem hlt, Option.map_some]; rw [if_neg (by simp), Option.some.injEq, if_pos ⟨by omega, by simp; omega⟩, show off + i - off = i by omega, getElem!_pos _ i (by simpa using hiz)]; simp [hyz]
theorem castAs_one {p : AP} {avs : List AV} {x : denR (headRT ([p].map some))} (h : castAs [p] avs = some x) : ∃ a, avs = [a] ∧ castA p .nil a () = some x := by
 match avs, h with
 | [], h => cases h
 | [a], h => exact ⟨a, rfl, h⟩
 | a :: b :: l, h => cases h
theorem castOs_one {p : OP} {t : RT} {os : List OV} {y : denR t} {x : denR (opsRT [p] t)} (h : castOs [p] t os y = some x) : ∃ o z, os = [o] ∧ castO p o = some z ∧ x = (z, y) := by
 match os, h with
 | [], h => cases h
 | [o], h =>
   unfold castOs castOs at h
   cases hc : castO p o with
   | none => rw [hc] at h; cases h
   | some z =>
     rw [hc] at h; injection h with h; exact ⟨o, z, rfl, hc, h.symm⟩
 | a :: b :: l, h =>
   exfalso
   unfold castOs castOs at h
   cases hc : castO p a <;> rw [hc] at h <;> cases h
def sortT (xs : List (Int × Unit)) : Option ((List (Int × Unit)) × Unit) := bif Nat.ble xs.length lim then some (ofInts ((intsOf xs).mergeSort fun x y => decide (x ≤ y)), ()) else none
theorem sort_known {P : Program} {ρ : Ren} (L : Lays.n189 P ρ) {f : Nat} (hf : ρ.f 189 = f) (hfn : ∃ fn, P.funcs[f]? = some fn ∧ (fn.name == "runtime.NumGoroutine") = false ∧ fn.body.isNone = false) :
   Known P f (semOf [.io IntRT] [] (fun x => sortT x.1)) := by
 refine ⟨?_, hfn⟩; intro c w mu lc avs args A y hH hA hs ho; unfold semOf at hs
 cases hx : castAs [.io IntRT] avs with
 | none => rw [hx] at hs; cases hs
 | some x =>
   rw [hx] at hs; simp only [Option.some.injEq] at hs; subst hs; obtain ⟨a0, rfl, hq⟩ := castAs_one hx; clear hx
   cases a0 with
   | val _ _ => cases hq
   | box _ => cases hq
   | lend _ => cases hq
   | io A0 =>
     obtain ⟨v, l, ha, hv, hl⟩ := hA; have hl : l = [] := hl; subst hl; have ha : args = #[v] := Array.toList_inj.1 ha; subst ha; obtain ⟨r0, o0, xs0, md0⟩ := A0; unfold castA at hq; obtain ⟨hmd, hq2⟩ := bif_some hq; clear hq; have hmd := Md.is_iff.1 hmd; subst hmd
     cases hc : castL IntRT xs0 with
     | none => simp [hc] at hq2
     | some xs =>
       simp only [hc] at hq2; injection hq2 with hq; obtain ⟨e, he⟩ := castL_some hc
       cases e
       have he : xs = xs0 := he; rw [he] at hq; subst hq; have hty : sortT xs0 = some y := ho; unfold sortT at hty; obtain ⟨hb, hty⟩ := bif_some hty; have hlim := Nat.le_of_ble_eq_true hb; unfold lim at hlim; injection hty with hty; subst hty; obtain ⟨h1, h2, h3, h4⟩ : OwnAt c w (.pend 0 0) (lc 0 0) { r := IntRT, own := o0, xs := xs0 } v := hv; have h3 : o0 = true := h3; subst h3; have hperm : ((intsOf xs0).mergeSort fun x y => decide (x ≤ y)).length = xs0.length := by rw [List.length_mergeSort]; exact intsOf_len xs0
       have fin : ∀ (w' : World), Bas w mu c w' → OwnAt c w' (.pend 0 0) (lc 0 0) { r := IntRT, own := true, xs := ofInts ((intsOf xs0).mergeSort fun x y => decide (x ≤ y)) } v →
           ∃ v', Ending.returned (.tuple #[]) = .returned v' ∧ ∃ c', Bas w mu c' w' ∧ HoldV c' w' [] v' ∧ HoldX c' w' lc 0 [.io { r := IntRT, own := true, xs := xs0 }] [v] [.io { r := IntRT, own := true, xs := ofInts ((intsOf xs0).mergeSort fun x y => decide (x ≤ y)) }] :=
         fun w' hbas hown => ⟨_, rfl, c, hbas, .inr ⟨by simp, #[], rfl, rfl⟩, _, _, rfl, rfl, (ofInts_len _).trans hperm, hown, rfl⟩
       have hbas0 : Bas w mu c w := ⟨fun b l hb => ⟨hH.lt b l hb, (hH.lb b l hb).imp id fun hh => .inr ((hH.m b).2 ⟨l, hb, hh⟩)⟩, fun b _ hb => .inr ((hH.ok b).2 hb), ⟨rfl, rfl, rfl, Nat.le_refl _⟩, fun _ _ _ => rfl⟩
       by_cases hne : xs0 = []
       · -- nothing to sort
         subst hne; have hz : ∃ a cp, v = .slice a 0 cp := by
           unfold SlAt at h2
           split at h2
           · exact ⟨none, 0, h2.1⟩
           · obtain ⟨a, cp, hv, _⟩ := h2; exact ⟨some a, cp, hv⟩
         obtain ⟨a, cp, rfl⟩ := hz; have hcall := Any.slices_Sort_int_none L a cp w; rw [hf] at hcall; refine hcall.mono fun e w' ⟨he, hw⟩ => ?_
         subst he; subst hw; refine fin w' hbas0 ?_; have key : ∀ ys : List (denR IntRT), ys = [] → OwnAt c w' (.pend 0 0) (lc 0 0) { r := IntRT, own := true, xs := ys } (.slice a 0 cp) := by
           intro ys e; subst e; exact ⟨h1, h2, rfl, h4⟩
         exact key _ (List.length_eq_zero_iff.1 ((ofInts_len _).trans hperm))
       · generalize hlc : lc 0 0 = loc at *
         cases loc with
         | nil => exact absurd h4 hne
         | «at» b off cap =>
           obtain ⟨g1, g2, ⟨cur, ty, g3, g4⟩, g5⟩ := h4; obtain ⟨a, cp, rfl, k1, k2, k3⟩ := h2; have hpos : 0 < xs0.length := List.length_pos_iff.2 hne; have k1 : xs0.length ≤ cp := k1; have ha := k3 (by omega); have ha : a = ⟨b, off, none⟩ := ha.trans (by rw [Nat.zero_mul]; rfl); subst ha; have hlt : b < w.heap.size := (Array.getElem?_eq_some_iff.1 g3).1; have hsz : off + xs0.length ≤ cur.size := by
             have g2 : xs0.length ≤ cap := g2; have g4 : off + cap * 1 ≤ cur.size := g4; omega
           have hcall := Any.slices_Sort_int L b off cp (intsOf xs0) w (holds_ints g3 ((RowsOk.sh rfl).1 g5)) hlt (by rw [intsOf_len xs0]; omega); rw [hf] at hcall; have hlen : (intsOf xs0).length = xs0.length := intsOf_len xs0; rw [hlen] at hcall; refine hcall.mono fun e w' ⟨he, n, os, hw⟩ => ?_
           subst he; subst hw; have hsl : off + ((intsOf xs0).mergeSort fun x y => decide (x ≤ y)).length ≤ cur.size := by rw [hperm]; exact hsz
           have hm : mu.m b := (hH.m b).2 ⟨_, g1, rfl⟩; refine fin _ (laid_bas hH hm _) ?_; have hlen2 : (ofInts ((intsOf xs0).mergeSort fun x y => decide (x ≤ y))).length = xs0.length := (ofInts_len _).trans hperm; refine ⟨h1, ⟨_, cp, congrArg (fun n => Value.slice (some ⟨b, off, none⟩) n cp) hlen2.symm, Nat.le_trans (Nat.le_of_eq hlen2) k1, k2, k3⟩, rfl, g1, ?_, ⟨_, ty, laid_block g3 _, ?_⟩, (RowsOk.sh rfl).2 (laid_rows g3 _ hsl (List.prefix_refl _))⟩
           · exact Nat.le_trans (Nat.le_of_eq hlen2) g2
           · show off + cap * 1 ≤ _; simp only [_root_.Go.Sort.putCells, Array.size_mapIdx]; exact g4
def compactT (xs : List (Int × Unit)) : Option ((List (Int × Unit)) × Unit) := bif Nat.ble xs.length lim then some (ofInts (Lib.compact (intsOf xs)), ()) else none
theorem compact_len (zs : List Int) : (Lib.compact zs).length ≤ zs.length := by
 unfold Lib.compact Lib.compactUpTo; rw [List.length_map]; exact Nat.le_trans (List.length_filter_le _ _) (by simp)
def Cz.one (c : Cz) (b : Nat) (l : Lb) : Cz := { c with own := fun b' => if b' = b then some l else c.own b' }
theorem Bas.one {c : Cz} {w w' : World} {mu : Mu} {b : Nat} {l : Lb} (h : Bas w mu c w') (hm : mu.m b) (hb : b < w'.heap.size) : Bas w mu (c.one b l) w' := by
 refine ⟨fun b' l' h' => ?_, fun b' hlt h' => ?_, h.kept, h.old⟩
 · have h' : (if b' = b then some l else c.own b') = some l' := h'
   by_cases e : b' = b
   · subst e; exact ⟨hb, .inr (.inr hm)⟩
   · rw [if_neg e] at h'; exact h.owned b' l' h'
 · have h' : (if b' = b then some l else c.own b') = none := h'
   by_cases e : b' = b
   · rw [if_pos e] at h'; cases h'
   · rw [if_neg e] at h'; exact h.free b' hlt h'
theorem compact_known {P : Program} {ρ : Ren} (L : Lays2.n20 P ρ) {f : Nat} (hf : ρ.f 20 = f) (hfn : ∃ fn, P.funcs[f]? = some fn ∧ (fn.name == "runtime.NumGoroutine") = false ∧ fn.body.isNone = false) :
   Known P f (semOf [.val false [.own IntRT]] [{ src := .tmp 0, agg := false, ps := [.own IntRT] }] (fun x => compactT x.1)) := by
 refine ⟨?_, hfn⟩; intro c w mu lc avs args A y hH hA hs ho; unfold semOf at hs
 cases hx : castAs [.val false [.own IntRT]] avs with
 | none => rw [hx] at hs; cases hs
 | some x =>
   rw [hx] at hs; simp only [Option.some.injEq] at hs; subst hs; have hbas0 : Bas w mu c w := ⟨fun b l hb => ⟨hH.lt b l hb, (hH.lb b l hb).imp id fun hh => .inr ((hH.m b).2 ⟨l, hb, hh⟩)⟩, fun b _ hb => .inr ((hH.ok b).2 hb), ⟨rfl, rfl, rfl, Nat.le_refl _⟩, fun _ _ _ => rfl⟩; have empty : ∀ a cp, Calls P f #[.slice a 0 cp] w fun e w' => e = .returned (.slice a 0 cp) ∧ w' = w := fun a cp => by
     have hcall := calls_of_every_depth fun D => AnyS.slices_Compact_int_empty_in L D a cp w
     rw [hf] at hcall; exact hcall
   have ans : ∀ (os : List OV) (v : Value) (c' : Cz) (w' : World) (loc : Loc) (u : Value) (ys : List (denR IntRT)), Bas w mu c' w' → OwnAt c' w' (.pres 0) loc { r := IntRT, own := true, xs := ys } u →
       ∃ v', Ending.returned u = .returned v' ∧ ∃ c', Bas w mu c' w' ∧ HoldV c' w' [.one (.own { r := IntRT, own := true, xs := ys })] v' ∧ HoldX c' w' lc 0 [.val false os] [v] [] :=
     fun os v c' w' loc u ys hb hown => ⟨u, rfl, c', hb, .inl ⟨_, rfl, u, [], rfl, ⟨u, [], rfl, ⟨loc, hown⟩, rfl⟩, rfl⟩, rfl⟩
   obtain ⟨a0, rfl, hq⟩ := castAs_one hx; clear hx
   cases a0 with
   | io _ => cases hq
   | box _ => cases hq
   | lend _ => cases hq
   | val ag os =>
   cases ag with
   | true => cases hq
   | false =>
   obtain ⟨o, z, rfl, hz, hx2⟩ := castOs_one hq; clear hq
   cases o with
   | int _ _ => cases hz
   | bool _ => cases hz
   | str _ => cases hz
   | shr _ _ => cases hz
   | rpt _ _ => cases hz
   | fn _ _ _ => cases hz
   | nils =>
     obtain ⟨v, l, ha, hv, hl⟩ := hA; have hl : l = [] := hl; subst hl; have ha : args = #[v] := Array.toList_inj.1 ha; subst ha; obtain ⟨l', hv', _⟩ := hv; injection hv' with hv' _; subst hv'; injection hz with hz; subst hz; subst hx2; have hty : compactT [] = some y := ho; have hy : y = ([], ()) := by
       have : compactT [] = some ([], ()) := rfl; rw [this] at hty; injection hty with hty; exact hty.symm
     subst hy; refine (empty none 0).mono fun e w' ⟨he, hw⟩ => ?_
     subst he; subst hw; exact ans _ _ c _ .nil _ [] hbas0 ⟨rfl, ⟨rfl, rfl⟩, rfl, rfl⟩
   | own A0 =>
     obtain ⟨v, l, ha, hv, hl⟩ := hA; have hl : l = [] := hl; subst hl; have ha : args = #[v] := Array.toList_inj.1 ha; subst ha; obtain ⟨v1, l', hv', ⟨loc, hv2⟩, _⟩ := hv; injection hv' with hv' _; subst hv'; obtain ⟨r0, o0, xs0, md0⟩ := A0; have hz : (bif md0.is .sh then castL IntRT xs0 else none) = some z := hz; obtain ⟨hmd, hz⟩ := bif_some hz; have hmd := Md.is_iff.1 hmd; subst hmd
     cases hc : castL IntRT xs0 with
     | none => rw [hc] at hz; cases hz
     | some xs =>
       have hzx : xs = z := Option.some.inj (hc.symm.trans hz); obtain ⟨e, he⟩ := castL_some hc
       cases e
       have he : xs = xs0 := he; rw [← hzx, he] at hx2; subst hx2; have hty : compactT xs0 = some y := ho; unfold compactT at hty; obtain ⟨hb, hty⟩ := bif_some hty; have hlim := Nat.le_of_ble_eq_true hb; unfold lim at hlim; injection hty with hty; subst hty; obtain ⟨h1, h2, h3, h4⟩ := hv2
       by_cases hne : xs0 = []
       · subst hne
         cases loc with
         | nil =>
           obtain ⟨h2, _⟩ := h2; subst h2; refine (empty none 0).mono fun e w' ⟨he, hw⟩ => ?_
           subst he; subst hw; exact ans _ _ c _ .nil _ [] hbas0 ⟨rfl, ⟨rfl, rfl⟩, rfl, rfl⟩
         | «at» b off cap =>
           obtain ⟨g1, g2, ⟨cur, ty, g3, g4⟩, g5⟩ := h4; obtain ⟨a, cp, hv3, k1, k2, k3⟩ := h2; have hv3 : v = .slice (some a) 0 cp := hv3; subst hv3; have hlt : b < w.heap.size := (Array.getElem?_eq_some_iff.1 g3).1; refine (empty (some a) cp).mono fun e w' ⟨he, hw⟩ => ?_
           subst he; subst hw; exact ans _ _ (c.one b (.pres 0)) _ (.at b off cap) _ [] (hbas0.one ((hH.m b).2 ⟨_, g1, rfl⟩) hlt) ⟨rfl, ⟨a, cp, rfl, k1, k2, k3⟩, rfl, if_pos rfl, Nat.zero_le _, ⟨cur, ty, g3, g4⟩, (RowsOk.sh rfl).2 fun i x hi => by simp at hi⟩
       · cases loc with
         | nil => exact absurd h4 hne
         | «at» b off cap =>
           obtain ⟨g1, g2, ⟨cur, ty, g3, g4⟩, g5⟩ := h4; obtain ⟨a, cp, hv3, k1, k2, k3⟩ := h2; subst hv3; have hpos : 0 < xs0.length := List.length_pos_iff.2 hne; have k1 : xs0.length ≤ cp := k1; have ha := k3 (by omega); have ha : a = ⟨b, off, none⟩ := ha.trans (by rw [Nat.zero_mul]; rfl); subst ha; have hlt : b < w.heap.size := (Array.getElem?_eq_some_iff.1 g3).1; have hsz : off + xs0.length ≤ cur.size := by
             have g2 : xs0.length ≤ cap := g2; have g4 : off + cap * 1 ≤ cur.size := g4; omega
           have hlen : (intsOf xs0).length = xs0.length := intsOf_len xs0; have hcall := calls_of_every_depth fun D => AnyS.slices_Compact_int_in L D b off cp (intsOf xs0) w (holds_ints g3 ((RowsOk.sh rfl).1 g5)) (Nat.le_trans (Nat.le_of_eq (intsOf_len xs0)) (Nat.le_trans hlim (by decide))) (Nat.le_trans (Nat.le_of_eq (intsOf_len xs0)) k1)
           rw [hf, hlen] at hcall; have hcl := compact_len (intsOf xs0); rw [hlen] at hcl; refine hcall.mono fun e w' ⟨he, q, hw⟩ => ?_
           subst he; rw [← grow_empty (putRow _ _ _ _ _)] at hw; subst hw; have hm : mu.m b := (hH.m b).2 ⟨_, g1, rfl⟩; have hsl : off + (Lib.compact (intsOf xs0) ++ List.replicate (xs0.length - (Lib.compact (intsOf xs0)).length) 0).length ≤ cur.size := by
             rw [List.length_append, List.length_replicate]; omega
           have hbas : Bas w mu c (grow (putRow (Value.int .i64) (Sort.ahead w q) b off (Lib.compact (intsOf xs0) ++ List.replicate (xs0.length - (Lib.compact (intsOf xs0)).length) 0).toArray) #[]) := laid_bas hH hm _; refine ans _ _ (c.one b (.pres 0)) _ (.at b off cap) _ _ (hbas.one hm (Nat.lt_of_lt_of_le hlt (laid_size _))) ⟨rfl, ⟨_, cp, congrArg (fun n => Value.slice (some ⟨b, off, none⟩) n cp) (ofInts_len _).symm, Nat.le_trans (Nat.le_of_eq (ofInts_len _)) (Nat.le_trans hcl k1), k2, k3⟩, rfl, if_pos rfl, ?_, ⟨_, ty, laid_block g3 _, ?_⟩, laid_rows g3 _ hsl (List.prefix_append _ _)⟩
           · exact Nat.le_trans (Nat.le_of_eq (ofInts_len _)) (Nat.le_trans hcl g2)
           · show off + cap * 1 ≤ _; simp only [_root_.Go.Sort.putCells, Array.size_mapIdx]; exact g4
end Go.TM
