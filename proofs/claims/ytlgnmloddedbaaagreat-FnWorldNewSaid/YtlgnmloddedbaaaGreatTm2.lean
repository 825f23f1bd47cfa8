/- A machine over trees: an evaluator of the code, and that what it finds is so; part 2. -/
import Derived.Test.YtlgnmloddedbaaaGreatTm1
import Derived.Laws.MakeOwn
import Derived.Great.BuildSlice
import Derived.Laws.Cover3
import Derived.Laws.BytesString
import Derived.Tactics
set_option linter.unusedSimpArgs false
set_option linter.unusedVariables false
namespace Go.TM
open Go Go.RowKit
theorem brN_some {b : Bool} {t e : N} {y : St} (h : (N.br b t e).val = some y) : (b = true ∧ t.val = some y) ∨ (b = false ∧ e.val = some y) := by
 cases b
 · exact .inr ⟨rfl, h⟩
 · exact .inl ⟨rfl, h⟩
theorem brN_fail {b : Bool} {t : N} {y : St} (h : (N.br b t N.fail).val = some y) : b = true ∧ t.val = some y := by
 rcases brN_some h with h | ⟨_, h⟩
 · exact h
 · simp [N.val] at h
theorem dpOf_some {st : St} {y : V} {b k : Nat} {B : Arr} (h : dpOf st y = some (b, k, B)) : ∃ g, y = .one (.ref b k g .full) ∧ arr? st b k g = some B ∧ B.own = true ∧ B.md = .dp := by
 unfold dpOf at h
 split at h
 · rename_i a' j' g
   cases hA : arr? st a' j' g with
   | none => rw [hA] at h; cases h
   | some A =>
     rw [hA] at h; obtain ⟨h1, h2⟩ := bif_some h; rw [Bool.and_eq_true] at h1; simp only [Option.some.injEq, Prod.mk.injEq] at h2; obtain ⟨rfl, rfl, rfl⟩ := h2; exact ⟨g, rfl, hA, h1.1, Md.is_iff.1 h1.2⟩
 · cases h
theorem dows_of_arr {c : Cz} {w : World} {s j : Nat} {A : Arr} (h : ArrOk c w s j A) (ho : A.own = true) (hm : A.md = .dp) {v : Value} (hv : SlAt (c.lc s j) A.r.width 0 A.xs.length v) :
   ∃ (g : Nat → List Nat) (vs : List Value) (xb : Option Nat), DowsVs w (fun p k => c.own k = some (.sp s j) ∧ g k = p) A.r 0 vs A.xs ∧ (∀ b, xb = some b → c.own b = some (.sp s j) ∧ g b = []) ∧
     ((xb = none ∧ v = .slice none 0 0 ∧ A.xs.length = 0) ∨ ∃ b off lo cap n ad cur te, xb = some b ∧ v = .slice (some ad) A.xs.length n ∧ A.xs.length ≤ n ∧ lo + n ≤ cap ∧ (n ≠ 0 → ad = ⟨b, off + lo * A.r.width, none⟩) ∧
     w.heap[b]? = some (.cells cur te (0, 0)) ∧ off + cap * A.r.width ≤ cur.size ∧ w.rangeAt b (off + lo * A.r.width) vs) := by
 unfold ArrOk at h
 cases hl : c.lc s j with
 | nil =>
   rw [hl] at h hv; refine ⟨fun _ => [], [], none, by rw [h]; rfl, (fun b e => by cases e), .inl ⟨rfl, hv.1, hv.2⟩⟩
 | «at» b off cap =>
   rw [hl] at h hv; obtain ⟨h0, h2, ⟨cur, te, h3, h4⟩, h5⟩ := h; rw [ho] at h0; unfold RowsOk at h5; rw [hm] at h5; obtain ⟨g, g1, g2⟩ := h5; obtain ⟨ad, n, e, k1, k2, k3⟩ := hv; obtain ⟨vs, q1, q2⟩ := dows_of_dep b off 0 A.xs (fun i x hx => by rw [Nat.zero_add]; exact g2 i x hx); exact ⟨g, vs, some b, q2, (fun b' e => by cases e; exact ⟨h0, g1⟩), .inr ⟨b, off, 0, cap, n, ad, cur, te, rfl, e, k1, by omega, k3, h3, h4, by simpa using q1⟩⟩
def shiftP (n : Nat) : List Nat → List Nat
 | [] => []
 | i :: l => (i + n) :: l
theorem appendDp_ok {P : Program} {T : Tab} (hT : TabOk P T) {w0 : World} {mu : Mu} {c : Cz} {st : St} {a : Act} {w : World} (h : Rel w0 mu c st a w)
   {d : Option Nat} {t ty : Nat} {r : RT} {bytes : Nat} (ht : T.elem t = some (r, bytes)) {x : V} {ux uy : Value} {b k gb : Nat} {B : Arr} {ys : List (denR r)} (hx : RelV c st w x ux) (hy : RelC c st w (.ref b k gb .full) uy) (hB : arr? st b k gb = some B) (hBo : B.own = true) (hBm : B.md = .dp)
   (hys : castL r B.xs = some ys) {st' : St} (hv : (appendDp st d r bytes x b k ys).val = some st') (hd : ∀ k, d = some k → k < a.tmps.size) :
   ∃ v w', (Builtin.append_ #[t, t] ty #[ux, uy]).run P w = .ok v w' ∧ ∃ c', Rel w0 mu c' st' (a.put d v) w' := by
 obtain ⟨e, he⟩ := castL_some hys; subst e; simp only at he; subst he; obtain ⟨gy, vy, yb, hvy, hyb, hyc⟩ := dows_of_arr (h.arrOf hB) hBo hBm (hy.2.2 B hB); have hy' : (B.xs.length = 0 ∧ (uy = .slice none 0 0 ∨ ∃ a c, uy = .slice (some a) 0 c)) ∨ (B.xs.length ≠ 0 ∧ ∃ a c, uy = .slice (some a) B.xs.length c ∧ ∀ (j : Nat) v, vy[j]? = some v → w.cell? (a.add j) = some v) := by
   rcases hyc with ⟨_, e1, e2⟩ | ⟨b', off, lo, cap, n, ad, cur, te, _, e1, e2, e3, e4, e5, e6, e7⟩
   · exact .inl ⟨e2, .inl e1⟩
   · by_cases h0 : B.xs.length = 0
     · exact .inl ⟨h0, .inr ⟨ad, n, by rw [e1, h0]⟩⟩
     · refine .inr ⟨h0, ad, n, e1, fun j v hv => ?_⟩; rw [e4 (by omega), Addr.add_mid]; exact e7 j v hv
 unfold appendDp at hv
 split at hv
 · -- behind nothing
   obtain ⟨hb, hv⟩ := brN_fail hv; obtain ⟨kk, s0, rfl, hs0, rfl⟩ := newArr_some hv; obtain ⟨hk1, hk2, _, _, _⟩ := killNames_ok [(b, k)] h; have hR := hk1.relab hk2 kk 0; refine append_dp hT hR ht (xs := []) (ys := B.xs) (vx := []) (vy := vy) (PX := fun _ _ => False) (PY := fun p q => c.own q = some (.sp b k) ∧ gy q = p) (g := gy) (xb := none) hs0 (hd kk rfl) (Nat.le_of_ble_eq_true hb) rfl hvy (fun _ _ _ h => h.elim) (fun i q k' hk => ⟨by simp, Cz.relab_in (n := (b, k)) (by simp) hk.1, by simpa using hk.2⟩) hy' (fun _ e => by cases e) (.inl ⟨rfl, hx, rfl⟩)
 · rename_i a' j g vw
   split at hv
   · rename_i A hdp; obtain ⟨g2, e1, hA, hAo, hAm⟩ := dpOf_some hdp; injection e1 with e1; injection e1 with q1 q2 q3 q4; subst q1 q2 q3 q4
     cases hcl : castL B.r A.xs with
     | none => rw [hcl] at hv; simp [N.val] at hv
     | some xs =>
       rw [hcl] at hv; simp only at hv; obtain ⟨hne, hv⟩ := bifN_some hv; obtain ⟨hb, hv⟩ := brN_fail hv; obtain ⟨kk, s0, rfl, hs0, rfl⟩ := newArr_some hv; obtain ⟨r0, own0, xs0, md0⟩ := A; obtain ⟨e, he⟩ := castL_some hcl; simp only at e; subst e; simp only at he; subst he; have hne' : Lb.sp a' j ≠ Lb.sp b k := by
         intro e; injection e with e1 e2; subst e1 e2; simp at hne
       obtain ⟨gx, vx, xb, hvx, hxb, hxc⟩ := dows_of_arr (h.arrOf hA) hAo hAm (hx.2.2 _ hA); obtain ⟨hk1, hk2, _, _, _⟩ := killNames_ok [(a', j), (b, k)] h; have hR := hk1.relab hk2 kk 0; have hin : ∀ q, c.own q = some (.sp a' j) → (c.relab [(a', j), (b, k)] (.sp kk 0)).own q = some (.sp kk 0) := fun q hq => Cz.relab_in (n := (a', j)) (by simp) hq
       classical
       refine append_dp hT hR ht (xs := xs) (ys := B.xs) (vx := vx) (vy := vy) (PX := fun p q => c.own q = some (.sp a' j) ∧ gx q = p) (PY := fun p q => c.own q = some (.sp b k) ∧ gy q = p)
         (g := fun q => if c.own q = some (.sp b k) then shiftP xs.length (gy q) else gx q) (xb := xb) hs0 (hd kk rfl) (Nat.le_of_ble_eq_true hb) hvx hvy (fun i q k' hk => ⟨?_, hin _ hk.1, ?_⟩) (fun i q k' hk => ⟨?_, Cz.relab_in (n := (b, k)) (by simp) hk.1, ?_⟩) hy' (fun b' e => hin _ (hxb b' e).1) ?_
       · intro e; have := (hxb k' e).2; rw [hk.2] at this; simp at this
       · rw [if_neg]
         · exact hk.2
         · rw [hk.1]; intro e; exact hne' (Option.some.inj e)
       · intro e; have := (hxb k' e).1; rw [hk.1] at this; exact hne' (Option.some.inj this).symm
       · rw [if_pos hk.1, hk.2]; rfl
       · exact hxc
   · simp [N.val] at hv
 · simp [N.val] at hv
theorem appendN_ok {P : Program} {T : Tab} (hT : TabOk P T) {w0 : World} {mu : Mu} {c : Cz} {st : St} {a : Act} {w : World} (h : Rel w0 mu c st a w)
   {d : Option Nat} {t ty : Nat} {x y : V} {ux uy : Value} (hx : RelV c st w x ux) (hy : RelV c st w y uy) {st' : St} (hv : (appendN T st d t x y).val = some st') (hd : ∀ k, d = some k → k < a.tmps.size) :
   ∃ v w', (Builtin.append_ #[t, t] ty #[ux, uy]).run P w = .ok v w' ∧ ∃ c', Rel w0 mu c' st' (a.put d v) w' := by
 unfold appendN at hv
 cases ht : T.elem t with
 | none => simp [ht, N.val] at hv
 | some p =>
   obtain ⟨r, bytes⟩ := p; simp only [ht] at hv
   cases hdp : dpOf st y with
   | some q =>
     obtain ⟨b, k, B⟩ := q; rw [hdp] at hv; simp only at hv; obtain ⟨gb, rfl, hB, hBo, hBm⟩ := dpOf_some hdp
     cases hys : castL r B.xs with
     | none => rw [hys] at hv; simp [N.val] at hv
     | some ys =>
       rw [hys] at hv; exact appendDp_ok hT h ht hx hy hB hBo hBm hys hv hd
   | none =>
   rw [hdp] at hv; simp only at hv; have tail : ∀ (xs : List (denR r)) (used : List (Nat × Nat)), (match y with
         | .one c => withRows st r c fun ys => N.br (Nat.ble ((xs.length + ys.length) * bytes) lim)
             (newArr (used.foldl (fun (s : St) (p : Nat × Nat) => setArr s p.1 p.2 none) st) d { r := r, own := true, xs := xs ++ ys }) .fail
         | _ => N.fail).val = some st' →
       ∃ ys k s0, d = some k ∧ nth (used.foldl (fun (s : St) (p : Nat × Nat) => setArr s p.1 p.2 none) st) k = some s0 ∧ (xs.length + ys.length) * bytes ≤ lim ∧ RdS w c.ok r uy ys ∧
         st' = upd (fun s => { s with v := .one (.ref k 0 (s0.ag + 1) .full), arrs := [some { r := r, own := true, xs := xs ++ ys }], ag := s0.ag + 1 }) (used.foldl (fun (s : St) (p : Nat × Nat) => setArr s p.1 p.2 none) st) k := by
     intro xs used hv
     cases y with
     | agg _ => simp [N.val] at hv
     | tup _ => simp [N.val] at hv
     | one cy =>
       obtain ⟨ys, hv, hr⟩ := withRows_ok h hy hv; obtain ⟨hb, hv⟩ := brN_fail hv; obtain ⟨k, s0, hk, hs0, hst⟩ := newArr_some hv; exact ⟨ys, k, s0, hk, hs0, Nat.le_of_ble_eq_true hb, hr, hst⟩
   cases x with
   | agg _ => simp [N.val] at hv
   | tup _ => simp [N.val] at hv
   | one cx => cases cx with
     | nils =>
       obtain ⟨ys, k, s0, rfl, hs0, hb, hr, rfl⟩ := tail [] [] hv; exact append_ok hT h ht hs0 (hd k rfl) hb hr (.inl ⟨hx, rfl⟩)
     | ref a' j g vw =>
       simp only at hv
       cases hA : arr? st a' j g with
       | none => simp [hA, N.val] at hv
       | some A =>
         simp only [hA] at hv; obtain ⟨hown, hv⟩ := bifN_some hv; rw [Bool.and_eq_true] at hown; have hmd := Md.is_iff.1 hown.2; have hown := hown.1
         cases hc : castL r A.xs with
         | none => simp [hc, N.val] at hv
         | some xs =>
           simp only [hc] at hv; obtain ⟨e, he⟩ := castL_some hc; subst e; simp only at he; subst he; obtain ⟨ys, k, s0, rfl, hs0, hb, hr, rfl⟩ := tail (vw.app A.xs) [(a', j)] hv; obtain ⟨hk1, hk2⟩ := h.kill a' j; obtain ⟨sl, hs1, hs2, hs3⟩ := arr?_some hA; have hao := h.arrs a' j sl A hs1 hs3; have hs := hx.2.2 A hA; refine append_ok hT hk1 ht hs0 (hd k rfl) hb hr ?_
           cases hl : c.lc a' j with
           | nil =>
             unfold SlAt at hs; rw [hl] at hs; exact .inl ⟨hs.1, List.length_eq_zero_iff.1 hs.2⟩
           | «at» b off cap =>
             unfold SlAt at hs; rw [hl] at hs; obtain ⟨ad, n, rfl, hn, hcap, had⟩ := hs; unfold ArrOk at hao; rw [hl] at hao; obtain ⟨ho, _, hcur, hrow⟩ := hao; rw [hown] at ho; exact .inr ⟨a', j, b, off, vw.lo, cap, n, ad, ho, hk2, rfl, hn, hcap, had, hcur, fun i x hi => (RowsOk.sh hmd).1 hrow _ x (View.app_get vw A.xs hi)⟩
     | _ => simp [N.val] at hv
theorem zero_rep {w : World} {ok : Nat → Prop} : (r : RT) → (vs : List Value) → ZeroL r vs → RepVs w ok r vs (zeroR r)
 | .nil, vs, h => h
 | .cons (.int k) r, vs, ⟨l, h, h'⟩ => ⟨.int k 0, l, h, repInt.2 rfl, zero_rep r l h'⟩
 | .cons .bool r, vs, ⟨l, h, h'⟩ => ⟨.bool false, l, h, repBool.2 rfl, zero_rep r l h'⟩
 | .cons .str r, vs, ⟨l, h, h'⟩ => ⟨.string ByteArray.empty, l, h, repStr.2 rfl, zero_rep r l h'⟩
 | .cons (.sl q) r, vs, ⟨l, h, h'⟩ => ⟨.slice none 0 0, l, h, (repSl _ _ _ _ _).2 (.inl ⟨rfl, rfl⟩), zero_rep r l h'⟩
theorem RowsVs.replicate {w : World} {ok : Nat → Prop} {r : RT} {vs : List Value} {x : denR r} (h : RepVs w ok r vs x) : (n : Nat) → RowsVs w ok r ((List.replicate n vs).flatten) (List.replicate n x)
 | 0 => rfl
 | n + 1 => ⟨vs, (List.replicate n vs).flatten, by simp [List.replicate_succ], h, RowsVs.replicate h n⟩
theorem zeros_flat (z : Array Value) (n W : Nat) (hz : z.size = W) (hW : 0 < W) : ((Array.range (n * W)).map (z[· % z.size]!)).toList = (List.replicate n z.toList).flatten := by
 subst hz
 induction n with
 | zero => simp
 | succ n ih =>
   have e1 : ((Array.range ((n + 1) * z.size)).map (z[· % z.size]!)).toList = ((Array.range (n * z.size)).map (z[· % z.size]!)).toList ++ z.toList := by
     apply List.ext_getElem
     · simp [Nat.add_mul]
     · intro k h1 h2; simp only [Array.getElem_toList, Array.getElem_map, Array.getElem_range]; rw [List.getElem_append]
       by_cases hk : k < n * z.size
       · rw [dif_pos (by simpa using hk)]; simp
       · rw [dif_neg (by simpa using hk)]; have hk2 : k < (n + 1) * z.size := by simpa using h1
         rw [Nat.add_mul, Nat.one_mul] at hk2; have hm : k % z.size = k - n * z.size := by
           have : k = (k - n * z.size) + n * z.size := by omega
           rw [this, Nat.add_mul_mod_self_right, Nat.mod_eq_of_lt (by omega)]; omega
         have hlt : k - n * z.size < z.size := by omega
         simp [hm, hlt]
   rw [e1, ih]; rw [List.replicate_succ', List.flatten_append]; simp
theorem makeN_ok {P : Program} {T : Tab} (hT : TabOk P T) {w0 : World} {mu : Mu} {c : Cz} {st : St} {a : Act} {w : World} (h : Rel w0 mu c st a w)
   {d : Option Nat} {t : Nat} {x y : V} {ux uy : Value} (hx : RelV c st w x ux) (hy : RelV c st w y uy) {st' : St} (hv : (makeN T st d t x y).val = some st') (hd : ∀ k, d = some k → k < a.tmps.size) :
   ∃ v w', (Instr.makeSlice t ux uy).run P w = .ok v w' ∧ Keep w w' ∧ ∃ c', Rel w0 mu c' st' (a.put d v) w' := by
 unfold makeN at hv
 split at hv
 · rename_i r bytes n m ht; obtain ⟨hnm, hv⟩ := brN_fail hv; obtain ⟨hn, hv⟩ := brN_fail hv; obtain ⟨hb, hv⟩ := brN_fail hv; obtain ⟨k, s0, rfl, hs0, rfl⟩ := newArr_some hv; have hnm := of_decide_eq_true hnm; have hn := of_decide_eq_true hn; have hb := Nat.le_of_ble_eq_true hb; subst hnm; obtain ⟨n, rfl⟩ := Int.eq_ofNat_of_zero_le hn; obtain ⟨e, i, z, hu, hi, hsz, hwid, hby, hbpos, hz, hzl⟩ := hT.elem t r bytes ht; have hzlen : z.cells.size = r.width := by have := ZeroL.length r _ hzl; simpa using this
   have e1 : ux = .int .i64 n := hx; have e2 : uy = .int .i64 n := hy; subst e1 e2; unfold lim at hb; simp only [Int.toNat_natCast] at hb; have hn1 : n ≤ 35184372088832 := by
     have : n * 1 ≤ n * bytes := Nat.mul_le_mul_left _ hbpos; omega
   have hwrap : IntKind.i64.wrap (n : Int) = n := by
     have := IntKind.wrap_i64 (n : Int); rw [this]; omega
   have hrun : (Instr.makeSlice t (.int .i64 n) (.int .i64 n)).run P w =
       .ok (.slice (some ⟨w.heap.size, 0, none⟩) n n) (w.alloc (.cells ((Array.range (n * r.width)).map (z.cells[· % z.cells.size]!)) e (0, 0))) := by
     have := run_make (P := P) w t e i z hu hi hz .i64 .i64 n n (by omega) (Int.le_refl _) (by
       have h2 : ((i.bytes * n : Nat) : Int) ≤ 281474976710656 := by rw [hby, Nat.mul_comm]; omega
       rwa [Int.natCast_mul] at h2) (by omega)
     simpa [madeCells, hsz] using this
   refine ⟨_, _, hrun, Keep.alloc _ _, ?_⟩
   cases hdp : T.dp t with
   | true =>
     have := h.freshDp (r := r) (P := fun _ _ => False) (g := fun _ => []) (xs := List.replicate n (zeroR r)) (cur := (Array.range (n * r.width)).map (z.cells[· % z.cells.size]!)) (ty := e) (cap := n) hs0 (hd k rfl) (by simp) (by simp) (DowsVs.replicate (fun i => zero_dep r [i] 0 _ hzl) n 0) (fun _ _ _ h => h.elim) (by
       rw [← zeros_flat z.cells n r.width hzlen hwid, List.take_length])
     simpa using this
   | false =>
   have hrows : RowsVs w c.ok r ((List.replicate n z.cells.toList).flatten) (List.replicate n (zeroR r)) := RowsVs.replicate (zero_rep r _ hzl) n; have := h.fresh (r := r) (xs := List.replicate n (zeroR r)) (cur := (Array.range (n * r.width)).map (z.cells[· % z.cells.size]!)) (ty := e) (cap := n) hs0 (hd k rfl) (by simp) (by simp) hrows (by
     rw [← zeros_flat z.cells n r.width hzlen hwid, List.take_length])
   simpa using this
 · simp [N.val] at hv
end Go.TM
namespace Go.TM
open Go Go.RowKit
theorem foldl_splice (off : Nat) : (l : List Value) → (k : Nat) → (cells : Array Value) → off + k + l.length ≤ cells.size →
   ((l.zipIdx k).foldl (fun cs (p : Value × Nat) => cs.setIfInBounds (off + p.2) p.1) cells).toList = splice cells.toList (off + k) l
 | [], k, cells, _ => by simp [splice]
 | v :: l, k, cells, h => by
   simp only [List.zipIdx_cons, List.foldl_cons, List.length_cons] at h ⊢; rw [foldl_splice off l (k + 1) _ (by simp; omega)]; rw [Array.toList_setIfInBounds]; apply List.ext_getElem?; intro q; rw [splice_get (by simp; omega), splice_get (by simp; omega), List.getElem?_set]; simp only [List.length_cons]
   by_cases h1 : off + (k + 1) ≤ q ∧ q < off + (k + 1) + l.length
   · rw [if_pos h1, if_pos (by omega)]; rw [show q - (off + k) = (q - (off + (k + 1))) + 1 by omega, List.getElem?_cons_succ]
   · rw [if_neg h1]
     by_cases h2 : off + k = q
     · subst h2; rw [if_pos rfl, if_pos (by simp; omega), if_pos (by omega)]; simp
     · rw [if_neg h2, if_neg (by omega)]
theorem fill_cons {place : Nat → Option (Nat × Nat)} {cells : Array Value} {i : Nat} {v : Value} {rest : List (Nat × Value)} {off size : Nat} (hp : place i = some (off, size)) (hv : v.cells.size = size) (hle : off + size ≤ cells.size) :
   Instr.fill place cells ((i, v) :: rest) = Instr.fill place (splice cells.toList off v.cells.toList).toArray rest := by
 have hf := foldl_splice off v.cells.toList 0 cells (by simp; omega); have e : (v.cells.zipIdx.foldl (fun cs (p : Value × Nat) => cs.setIfInBounds (off + p.2) p.1) cells) = (splice cells.toList off v.cells.toList).toArray := by
   apply Array.ext'; rw [← Array.foldl_toList, Array.toList_zipIdx]; simpa using hf
 conv => lhs; unfold Instr.fill
 simp only [hp]; rw [if_neg (by simp; omega)]; exact congrArg (fun cs => Instr.fill place cs rest) e
def PartsRel (c : Cz) (st : St) (w : World) (ps : List (Nat × V)) (us : List (Nat × Value)) : Prop :=
 ps.length = us.length ∧ ∀ (i : Nat) p u, ps[i]? = some p → us[i]? = some u → p.1 = u.1 ∧ RelV c st w p.2 u.2
theorem PartsRel.cons {c : Cz} {st : St} {w : World} {p : Nat × V} {u : Nat × Value} {ps : List (Nat × V)} {us : List (Nat × Value)} (h : PartsRel c st w (p :: ps) (u :: us)) :
   (p.1 = u.1 ∧ RelV c st w p.2 u.2) ∧ PartsRel c st w ps us :=
 ⟨h.2 0 p u rfl rfl, by have := h.1; simpa using this, fun i a b ha hb => h.2 (i + 1) a b (by simpa using ha) (by simpa using hb)⟩
theorem withParts_ok {w0 : World} {mu : Mu} {c : Cz} {st : St} {a : Act} {w : World} (h : Rel w0 mu c st a w) {r : RT} (hW : 0 < r.width) : (ps : List (Nat × V)) → (us : List (Nat × Value)) → PartsRel c st w ps us →
   (i : Nat) → (k : List (denR r) → List (Nat × Nat) → N) → {st' : St} → (withParts st r i ps k).val = some st' → (cells : Array Value) → cells.size = (i + ps.length) * r.width →
   ∃ xs m, (k xs m).val = some st' ∧ xs.length = ps.length ∧ (∀ p ∈ m, ∃ g A, arr? st p.1 p.2 g = some A) ∧
     ∃ vs : List Value, vs.length = ps.length * r.width ∧ Instr.fill (fun i => some (i * r.width, r.width)) cells us = some (cells.toList.take (i * r.width) ++ vs).toArray ∧
     ∀ ok : Nat → Prop, (∀ b, c.ok b → ok b) → (∀ p ∈ m, ∀ b, c.own b = some (.sp p.1 p.2) → ok b) → RowsVs w ok r vs xs
 | [], us, hp, i, k, st', hv, cells, hsz => by
   have : us = [] := by have := hp.1; simp at this; exact List.length_eq_zero_iff.1 this.symm
   subst this; refine ⟨[], [], hv, rfl, fun p hp => by simp at hp, [], by simp, ?_, fun _ _ _ => rfl⟩; simp only [Instr.fill, List.append_nil]; simp at hsz; rw [List.take_of_length_le (by simp; omega)]
 | (p, v) :: ps, us, hp, i, k, st', hv, cells, hsz => by
   cases us with
   | nil => have := hp.1; simp at this
   | cons u us =>
     obtain ⟨⟨hpu, hvu⟩, hp'⟩ := hp.cons; simp only [withParts] at hv; obtain ⟨hc, hv⟩ := bifN_some hv; rw [Bool.and_eq_true] at hc; have hpi := Nat.eq_of_beq_eq_true hc.2; obtain ⟨hcl, _⟩ := hvu.cells hc.1; obtain ⟨x, m1, h1, h2, h3⟩ := rowOf_ok h r v.cells _ hcl _ hv; have hlen : u.2.cells.toList.length = r.width := by
       have := h3 (fun _ => True) (fun _ _ => trivial) (fun _ _ _ _ => trivial); exact RepVs.length r _ x this
     simp only [List.length_cons] at hsz; have hm1 : (i + (ps.length + 1)) * r.width = i * r.width + r.width + ps.length * r.width := by rw [Nat.add_mul, Nat.add_mul]; omega
     have hle : i * r.width + r.width ≤ cells.size := by omega
     have hfill := fill_cons (place := fun i => some (i * r.width, r.width)) (cells := cells) (i := i) (v := u.2) (rest := us) rfl (by simpa using hlen) hle; obtain ⟨xs, m2, g1, g2, g3, vs, g4, g5, g6⟩ := withParts_ok h hW ps us hp' (i + 1) _ h1 (splice cells.toList (i * r.width) u.2.cells.toList).toArray (by
       rw [List.size_toArray, splice_length (by simp at hlen ⊢; omega)]; simp; rw [hsz]; congr 1; omega)
     refine ⟨x :: xs, m1 ++ m2, g1, by simp [g2], fun q hq => ?_, u.2.cells.toList ++ vs, by simp at hlen ⊢; rw [hlen, g4, Nat.add_mul]; omega, ?_, fun ok ho hm => ⟨_, vs, rfl, h3 ok ho (fun q hq => hm q (by simp [hq])), g6 ok ho (fun q hq => hm q (by simp [hq]))⟩⟩
     · rcases List.mem_append.1 hq with hq | hq
       · exact h2 q hq
       · exact g3 q hq
     · have e : (u : Nat × Value) = (i, u.2) := by rw [← hpi]; simp at hpu; rw [hpu]
       rw [e, hfill, g5]
       congr 2
       rw [← List.append_assoc]
       congr 1
       show List.take ((i + 1) * r.width) (splice cells.toList (i * r.width) u.2.cells.toList) = _; unfold splice; rw [Nat.add_mul, Nat.one_mul]; rw [List.take_append_of_le_length (by simp at hlen ⊢; omega)]; rw [List.take_of_length_le (by simp at hlen ⊢; omega)]
theorem buildSliceN_ok {P : Program} {T : Tab} (hT : TabOk P T) {w0 : World} {mu : Mu} {c : Cz} {st : St} {a : Act} {w : World} (h : Rel w0 mu c st a w)
   {d : Option Nat} {t len : Nat} {ps : List (Nat × V)} {us : Array (Nat × Value)} (hp : PartsRel c st w ps us.toList) {st' : St} (hv : (buildSliceN T st d t len ps).val = some st') (hd : ∀ k, d = some k → k < a.tmps.size) :
   ∃ v w', (Instr.buildSlice t len us).run P w = .ok v w' ∧ Keep w w' ∧ ∃ c', Rel w0 mu c' st' (a.put d v) w' := by
 unfold buildSliceN at hv
 cases ht : T.elem t with
 | none => simp [ht, N.val] at hv
 | some p =>
   obtain ⟨r, bytes⟩ := p; simp only [ht] at hv; obtain ⟨hc, hv⟩ := bifN_some hv; rw [Bool.and_eq_true] at hc; have hlen := Nat.eq_of_beq_eq_true hc.1; have hsmall := Nat.le_of_ble_eq_true hc.2; obtain ⟨e, i, z, hu, hi, hsz, hwid, hby, hbpos, hz, hzl⟩ := hT.elem t r bytes ht; have hzlen : z.cells.size = r.width := by have := ZeroL.length r _ hzl; simpa using this
   cases hpd : (bif T.dp t then partDp st r ps else none) with
   | some pq =>
     obtain ⟨x1, m⟩ := pq; rw [hpd] at hv; simp only at hv; obtain ⟨hdi, hv⟩ := bifN_some hv; obtain ⟨k, s0, rfl, hs0, rfl⟩ := newArr_some hv; obtain ⟨_, hpd⟩ := bif_some hpd; unfold partDp at hpd
     split at hpd
     · -- no row
       simp only [Option.some.injEq, Prod.mk.injEq] at hpd; obtain ⟨rfl, rfl⟩ := hpd; have hlen0 : len = 0 := by simpa using hlen.symm
       subst hlen0; have hus : us = #[] := by have := hp.1; simp at this; exact Array.eq_empty_of_size_eq_zero this.symm
       subst hus; have hcells : (Instr.buildSlice t 0 #[]).run P w = .ok (.slice (some ⟨w.heap.size, 0, none⟩) 0 0) (w.alloc (.cells #[] e (0, 0))) := by
         simp [Instr.buildSlice, run_underlying hu, sizeOf, typeInfo, hi, Instr.fill, newRow, show Array.range 0 = #[] from rfl]
       have hfr := h.freshDp (r := r) (P := fun _ _ => False) (g := fun _ => []) (xs := []) (cur := #[]) (ty := e) (cap := 0) hs0 (hd k rfl) (by simp) (by simp) (vs := []) rfl (fun _ _ _ h => h.elim) rfl; exact ⟨_, _, hcells, Keep.alloc _ _, hfr⟩
     · rename_i i0 v0 _; obtain ⟨hc2, hpd1⟩ := bif_some hpd; clear hpd; rw [Bool.and_eq_true] at hc2; obtain ⟨x2, hpd2, hx2⟩ : ∃ x2, rowDp st r v0.cells = some (x2, m) ∧ x1 = [x2] := by
         cases hq : rowDp st r v0.cells with
         | none => rw [hq] at hpd1; cases hpd1
         | some q =>
           rw [hq] at hpd1; simp only [Option.some.injEq, Prod.mk.injEq] at hpd1; exact ⟨q.1, by rw [← hpd1.2], hpd1.1.symm⟩
       subst hx2; have hi0 := Nat.eq_of_beq_eq_true hc2.2; subst hi0; obtain ⟨⟨i1, u1⟩, hus⟩ : ∃ u1, us.toList = [u1] := by
         have := hp.1
         match hl : us.toList with
         | [] => rw [hl] at this; simp at this
         | [u1] => exact ⟨u1, rfl⟩
         | _ :: _ :: _ => rw [hl] at this; simp at this
       obtain ⟨hpu, hvu⟩ := hp.2 0 (0, v0) (i1, u1) rfl (by rw [hus]; rfl); simp only at hpu hvu; subst hpu; obtain ⟨hcl, hone⟩ := hvu.cells hc2.1; obtain ⟨hml, hmo, G, hG⟩ := rowDp_ok h r v0.cells _ hcl hpd2; have hnd := distinct_nodup hdi; obtain ⟨hk1, hk2, _, _, _⟩ := killNames_ok (somesP m) h; have hR := hk1.relab hk2 k 0; have hlen1 : len = 1 := by simpa using hlen.symm
       subst hlen1; have hD := hG (fun p k => (∃ n ∈ somesP m, c.own k = some (.sp n.1 n.2)) ∧ ∀ (col : Nat) (n : Nat × Nat), m[col]? = some (some n) → c.own k = some (.sp n.1 n.2) → p = [0] ++ [col] ++ G col k) [0] 0 (fun col n k hc hk => ⟨⟨n, somesP_mem hc, hk⟩, fun col' n' h1 h2 => by
         rw [hk] at h2; injection h2 with h2; injection h2 with q1 q2; have : n = n' := Prod.ext q1 q2; subst this; rw [somesP_one hnd h1 hc, Nat.zero_add]⟩)
       have hul := DepVs.length r _ _ _ _ hD; obtain ⟨g', _, p2⟩ := newPlaces (c := c) hnd G (fun _ => []) [0] .out (fun n _ => by simp); have hfill := fill_cons (place := fun i => some (i * r.width, r.width)) (cells := (Array.range (1 * r.width)).map (z.cells[· % z.cells.size]!)) (i := 0) (v := u1) (rest := []) rfl (by simpa using hul) (by simp); have hcells : (Instr.buildSlice t 1 us).run P w = .ok (.slice (some ⟨w.heap.size, 0, none⟩) 1 1) (w.alloc (.cells u1.cells e (0, 0))) := by
         refine run_buildSlice (P := P) w t e 1 us u1.cells i z hu hi hz (by rw [hsz]; omega) (by rw [hsz]; intro h; rcases Nat.mul_eq_zero.1 h with h | h <;> omega) ?_; rw [hus, hsz, hfill]; simp only [Instr.fill]
         congr 1
         apply Array.ext'; show splice _ _ _ = _; unfold splice; rw [List.drop_eq_nil_of_le (by simp at hul ⊢; omega)]; simp
       have hfr := hR.freshDp (r := r) (xs := [x2]) (cur := u1.cells) (ty := e) (cap := 1) (g := g') hs0 (hd k rfl) (by simp) (by simp at hul ⊢; omega) (vs := u1.cells.toList) ⟨_, [], by simp, hD, rfl⟩ (fun i q k hk => by
         obtain ⟨⟨n, hn, hk1⟩, hk2⟩ := hk; obtain ⟨col, hc⟩ := mem_somesP hn; refine ⟨Cz.relab_in hn hk1, ?_⟩; rw [p2 col n k hc hk1]; exact (hk2 col n hc hk1).symm) (List.take_length)
       exact ⟨_, _, hcells, Keep.alloc _ _, hfr⟩
     · cases hpd
   | none =>
   rw [hpd] at hv; simp only at hv; obtain ⟨xs, m, h1, h2, h3, vs, h4, h5, h6⟩ := withParts_ok h hwid ps us.toList hp 0 _ hv ((Array.range (len * r.width)).map (z.cells[· % z.cells.size]!)) (by simp [hlen]); obtain ⟨k, s0, rfl, hs0, rfl⟩ := newArr_some h1; have hrows : RowsVs w (c.drop m).ok r vs xs := h6 _ (fun b hb => Cz.drop_ok m c b hb) (fun p hp k hk => Cz.drop_sp m c k hk hp); have hxl : xs.length = len := by rw [h2, hlen]
   have hcells : (Instr.buildSlice t len us).run P w = .ok (.slice (some ⟨w.heap.size, 0, none⟩) len len) (w.alloc (.cells vs.toArray e (0, 0))) := by
     simp only [Nat.zero_mul, List.take_zero, List.nil_append] at h5
     by_cases h0 : len = 0
     · subst h0; have hps : ps = [] := List.length_eq_zero_iff.1 hlen; subst hps; have hus : us = #[] := by have := hp.1; simp at this; exact Array.eq_empty_of_size_eq_zero this.symm
       subst hus; have hvs : vs = [] := by simp at h4; exact h4
       subst hvs; simp [Instr.buildSlice, run_underlying hu, sizeOf, typeInfo, hi, Instr.fill, newRow, show Array.range 0 = #[] from rfl]
     · refine run_buildSlice (P := P) w t e len us vs.toArray i z hu hi hz (by rw [hsz]; omega) (by rw [hsz]; intro h; rcases Nat.mul_eq_zero.1 h with h | h <;> omega) ?_; rw [hsz]; exact h5
   have hfr := (h.freeze m).fresh (r := r) (xs := xs) (cur := vs.toArray) (ty := e) (cap := len) hs0 (hd k rfl) (by omega) (by simp [h4, hlen]) hrows (by simp); rw [hxl] at hfr; exact ⟨_, _, hcells, Keep.alloc _ _, hfr⟩
theorem ZeroL.rel {c : Cz} {st : St} {w : World} : (r : RT) → (vs : List Value) → ZeroL r vs → RelL c st w ((rowCells r (zeroR r)).map fun | .shr _ _ => .nils | c => c) vs
 | .nil, vs, h => by simp only [ZeroL] at h; subst h; exact ⟨rfl, fun i x v hx => by simp [rowCells] at hx⟩
 | .cons t r, vs, h => by
   have key : ∃ v l x, vs = v :: l ∧ ZeroL r l ∧ ((fun | .shr _ _ => .nils | c => c : CV → CV) (cellTy t (zeroTy t))) = x ∧ RelC c st w x v := by
     cases t with
     | int k => obtain ⟨l, h, h'⟩ := h; exact ⟨_, l, _, h, h', rfl, rfl⟩
     | bool => obtain ⟨l, h, h'⟩ := h; exact ⟨_, l, _, h, h', rfl, rfl⟩
     | str => obtain ⟨l, h, h'⟩ := h; exact ⟨_, l, _, h, h', rfl, rfl⟩
     | sl q => obtain ⟨l, h, h'⟩ := h; exact ⟨_, l, _, h, h', rfl, rfl⟩
   obtain ⟨v, l, x, rfl, hl, hx, hr⟩ := key; obtain ⟨h1, h2⟩ := ZeroL.rel (c := c) (st := st) (w := w) r l hl; refine ⟨by simp [rowCells] at h1 ⊢; exact h1, fun i y u hy hu => ?_⟩
   cases i with
   | zero =>
     simp [rowCells, zeroR] at hy hu; subst hu; rw [← hy]; have : (match cellTy t (zeroTy t) with | .shr _ _ => CV.nils | c => c) = x := hx; rw [this]; exact hr
   | succ i => exact h2 i y u (by simpa [rowCells, zeroR] using hy) (by simpa using hu)
theorem plainCells_rel {c : Cz} {st : St} {w : World} {r : RT} {vs : List Value} (h : ZeroL r vs) : RelL c st w (plainCells r) vs := ZeroL.rel r vs h
theorem fillCells_ok {P : Program} {T : Tab} {c : Cz} {st : St} {w : World} {t : Nat} {places : List (Nat × Nat)} (hpl : ∀ f o s, T.off t f = some o → T.fsz t f = some s → places[f]? = some (o, s)) :
   (ps : List (Nat × V)) → (us : List (Nat × Value)) → PartsRel c st w ps us → (cs l : List CV) → (cells : Array Value) → RelL c st w cs cells.toList → fillCells T t cs ps = some l →
   ∃ cells', Instr.fill (places.toArray[·]?) cells us = some cells' ∧ RelL c st w l cells'.toList
 | [], us, hp, cs, l, cells, hl, h => by
   have : us = [] := by have := hp.1; simp at this; exact List.length_eq_zero_iff.1 this.symm
   subst this; simp only [fillCells, Option.some.injEq] at h; subst h; exact ⟨cells, rfl, hl⟩
 | (f, v) :: ps, us, hp, cs, l, cells, hl, h => by
   cases us with
   | nil => have := hp.1; simp at this
   | cons u us =>
     obtain ⟨⟨hpu, hvu⟩, hp'⟩ := hp.cons; simp only [fillCells] at h
     cases ho : T.off t f with
     | none => simp [ho] at h
     | some o =>
       cases hs : T.fsz t f with
       | none => simp [ho, hs] at h
       | some s =>
         simp only [ho, hs] at h; obtain ⟨hc, h⟩ := bif_some h; rw [Bool.and_eq_true] at hc; obtain ⟨hcl, _⟩ := hvu.cells hc.1; have hlen : v.cells.length = s := Nat.eq_of_beq_eq_true hc.2
         cases hpc : putCells cs o v.cells with
         | none => simp [hpc] at h
         | some cs' =>
           simp only [hpc] at h; obtain ⟨hle, rfl⟩ := putCells_some hpc; have h1 := hl.1; have h2 := hcl.1; have hfill := fill_cons (place := (places.toArray[·]?)) (cells := cells) (i := f) (v := u.2) (rest := us) (off := o) (size := s) (by simpa using hpl f o s ho hs) (by simp at h2; omega) (by simp at h1 h2; omega); obtain ⟨cells', g1, g2⟩ := fillCells_ok (P := P) hpl ps us hp' _ l (splice cells.toList o u.2.cells.toList).toArray (by simpa using hl.splice hcl o hle) h; refine ⟨cells', ?_, g2⟩; have e : (u : Nat × Value) = (f, u.2) := by simp at hpu; rw [hpu]
           rw [e, hfill]; exact g1
theorem build_ok {P : Program} {T : Tab} (hT : TabOk P T) {w0 : World} {mu : Mu} {c : Cz} {st : St} {a : Act} {w : World} (h : Rel w0 mu c st a w)
   {d : Option Nat} {t : Nat} {r : RT} {ps : List (Nat × V)} {us : Array (Nat × Value)} {l : List CV} (hr : T.row t = some r) (hg : T.agg t = true) (hp : PartsRel c st w ps us.toList)
   (hf : fillCells T t (plainCells r) ps = some l) (hd : ∀ k, d = some k → k < a.tmps.size) :
   ∃ v, (∀ w' : World, (Instr.build t us).run P w' = .ok v w') ∧ Rel w0 mu c (setV st d (.agg l)) (a.put d v) w := by
 obtain ⟨i, z, hi, hz, hzl⟩ := hT.row t r hr; obtain ⟨fs, places, hu, hpl, hpo⟩ := hT.bld t hg; obtain ⟨cells', g1, g2⟩ := fillCells_ok (P := P) (c := c) (st := st) (w := w) hpo ps us.toList hp (plainCells r) l z.cells (plainCells_rel hzl) hf; refine ⟨.agg cells', fun w' => run_build w' t us cells' ?_, h.setV ⟨cells', rfl, g2⟩ hd⟩; unfold Program.built; simp only [hi, hu, hz, hpl]; exact g1
end Go.TM
namespace Go.TM
open Go Go.RowKit
theorem run_cmpI {P : Program} {w : World} {op : BinOp} {t : TypeId} {k : IntKind} {a b : Int} {r : Bool} (h : cmpI op a b = some r) :
   (binOp op t (.int k a) (.int k b)).run P w = .ok (.bool r) w := by
 cases op <;> simp only [cmpI, Option.some.injEq, reduceCtorEq] at h <;> subst h <;> unfold binOp Op.intCmp <;> simp <;> rfl
theorem run_arithI {P : Program} {w : World} {op : BinOp} {t : TypeId} {k : IntKind} {a b n : Int} (h : arithI op k a b = some n) :
   (binOp op t (.int k a) (.int k b)).run P w = .ok (.int k n) w := by
 cases op <;> simp [arithI] at h <;> subst h <;> simp [binOp, Op.intArith, Op.intBits]
theorem run_divI {P : Program} {w : World} {op : BinOp} {t : TypeId} {k : IntKind} {a b n : Int} (h : divI op k a b = some n) (hb : b ≠ 0) :
   (binOp op t (.int k a) (.int k b)).run P w = .ok (.int k n) w := by
 cases op <;> simp [divI] at h <;> subst h <;> simp [binOp, Op.intDiv, hb]
theorem run_shiftI {P : Program} {w : World} {op : BinOp} {t : TypeId} {k l : IntKind} {a b n : Int} (h : shiftI op k a b.toNat = some n) (hb : 0 ≤ b) :
   (binOp op t (.int k a) (.int l b)).run P w = .ok (.int k n) w := by
 have hb' : ¬ b < 0 := by omega
 cases op <;> simp [shiftI] at h <;> subst h <;> simp [binOp, Op.shift, hb']
theorem eqGuard_plain {P : Program} {w : World} (op : BinOp) (t : TypeId) (x y : Operand) (a b : Value) (h : ¬ (a = .nilIface ∧ b = .nilIface)) (h2 : ∀ l m, ¬ (a = .agg l ∧ b = .agg m)) :
   (eqGuard op t x y a b).run P w = .ok () w := by
 unfold eqGuard
 cases op <;> cases a <;> cases b <;> simp_all
theorem binN_ok {P : Program} {T : Tab} (hT : TabOk P T) {w0 : World} {mu : Mu} {c : Cz} {st : St} {a : Act} {w : World} (h : Rel w0 mu c st a w) (hE : ∀ t, T.eq t = true → ∀ (l m : List CV) (us vs : Array Value) (b : Bool) (op : BinOp) (ox oy : Operand), T.fits t l = true → cellsEq l m = some b →
     RelL c st w l us.toList → RelL c st w m vs.toList → ∀ w' : World, (eqGuard op t ox oy (.agg us) (.agg vs)).run P w' = .ok () w' ∧ (Op.equal t (.agg us) (.agg vs)).run P w' = .ok b w')
   {d : Option Nat} {t : Nat} {op : BinOp} {ox oy : Operand} {x y : V} {ux uy : Value} (hx : RelV c st w x ux) (hy : RelV c st w y uy) {st' : St} (hv : (binN T st d op t x y).val = some st') (hd : ∀ k, d = some k → k < a.tmps.size) :
   ∃ v, (∀ w' : World, (do eqGuard op t ox oy ux uy; binOp op t ux uy : Sem Value).run P w' = .ok v w') ∧ Rel w0 mu c st' (a.put d v) w := by
 have fin : ∀ (cv : CV) (v : Value), RelC c st w cv v → (N.done (setV st d (.one cv))).val = some st' → (∀ w' : World, (eqGuard op t ox oy ux uy).run P w' = .ok () w') → (∀ w' : World, (binOp op t ux uy).run P w' = .ok v w') →
     ∃ v, (∀ w' : World, (do eqGuard op t ox oy ux uy; binOp op t ux uy : Sem Value).run P w' = .ok v w') ∧ Rel w0 mu c st' (a.put d v) w := by
   intro cv v hr hst hg hb; simp only [N.val, Option.some.injEq] at hst; subst hst; refine ⟨v, fun w' => ?_, h.setV hr hd⟩; simp [Sem.run_bind, hg, hb]
 cases x with
 | tup _ => simp [binN, N.val] at hv
 | agg l => cases y with
   | tup _ => simp [binN, N.val] at hv
   | one _ => simp [binN, N.val] at hv
   | agg m =>
     obtain ⟨us, rfl, hl⟩ := hx; obtain ⟨vs, rfl, hm⟩ := hy; simp only [binN] at hv; obtain ⟨ht, hv⟩ := bifN_some hv; rw [Bool.and_eq_true] at ht; obtain ⟨ht, hcl⟩ := ht
     cases hc : cellsEq l m with
     | none => cases op <;> simp [hc, N.val] at hv
     | some b =>
       have g := hE t ht l m us vs b op ox oy hcl hc hl hm
       cases op <;> simp only [hc] at hv <;> try (simp [N.val] at hv; done)
       · exact fin (.bool b) (.bool b) rfl hv (fun w' => (g w').1) (fun w' => by simp [binOp, Sem.run_bind, (g w').2])
       · exact fin (.bool (!b)) (.bool (!b)) rfl hv (fun w' => (g w').1) (fun w' => by simp [binOp, Sem.run_bind, (g w').2])
 | one cx => cases y with
   | tup _ => cases cx <;> simp [binN, N.val] at hv
   | agg _ => cases cx <;> simp [binN, N.val] at hv
   | one cy =>
     cases cx <;> cases cy <;> try (simp [binN, N.val] at hv; done)
     · rename_i k p l q; have e1 : ux = .int k p := hx; have e2 : uy = .int l q := hy; subst e1 e2; have hg := fun w' => eqGuard_plain (P := P) (w := w') op t ox oy (.int k p) (.int l q) (by simp) (by simp)
       simp only [binN] at hv
       by_cases hs : op = .shl ∨ op = .shr
       · have hv' : (match shiftI op k p q.toNat with | some n => N.br (decide (0 ≤ q)) (.done (setV st d (.one (.int k n)))) .fail | none => .fail).val = some st' := by
           rcases hs with rfl | rfl <;> exact hv
         cases hsh : shiftI op k p q.toNat with
         | none => simp [hsh, N.val] at hv'
         | some n =>
           simp only [hsh] at hv'; obtain ⟨hq, hv'⟩ := brN_fail hv'; exact fin (.int k n) (.int k n) rfl hv' hg (fun _ => run_shiftI hsh (of_decide_eq_true hq))
       · have hv' : (if k = l then (match cmpI op p q with
             | some t => N.done (setV st d (.one (.bool t)))
             | none => match arithI op k p q with
               | some n => .done (setV st d (.one (.int k n)))
               | none => match divI op k p q with
                 | some n => .br (decide (q = 0)) .fail (.done (setV st d (.one (.int k n))))
                 | none => .fail) else .fail).val = some st' := by
           cases op <;> first | exact hv | exact absurd (.inl rfl) hs | exact absurd (.inr rfl) hs
         by_cases hk : k = l
         · subst hk; rw [if_pos rfl] at hv'
           cases hc : cmpI op p q with
           | some r => simp only [hc] at hv'; exact fin (.bool r) (.bool r) rfl hv' hg (fun _ => run_cmpI hc)
           | none =>
             simp only [hc] at hv'
             cases ha : arithI op k p q with
             | some n => simp only [ha] at hv'; exact fin (.int k n) (.int k n) rfl hv' hg (fun _ => run_arithI ha)
             | none =>
               simp only [ha] at hv'
               cases hdv : divI op k p q with
               | none => simp [hdv, N.val] at hv'
               | some n =>
                 simp only [hdv] at hv'; rcases brN_some hv' with ⟨_, hv'⟩ | ⟨hq, hv'⟩
                 · simp [N.val] at hv'
                 · exact fin (.int k n) (.int k n) rfl hv' hg (fun _ => run_divI hdv (of_decide_eq_false hq))
         · rw [if_neg hk] at hv'; simp [N.val] at hv'
     · rename_i p q; have e1 : ux = .bool p := hx; have e2 : uy = .bool q := hy; subst e1 e2; have hg := fun w' => eqGuard_plain (P := P) (w := w') op t ox oy (.bool p) (.bool q) (by simp) (by simp)
       have hq : ∀ u, P.underlying t = some u → u = .bool → ∀ w' : World, (Op.equal t (.bool p) (.bool q)).run P w' = .ok (p == q) w' := by
         rintro u hu rfl w'
         have e : Op.equal t (.bool p) (.bool q) = Op.equalIn ((Op.maxDepth - 1) + 1) t (.bool p) (.bool q) := rfl; rw [e]; simp only [Op.equalIn]; simp [run_underlying hu]
       cases hk : T.kind t with
       | none => cases op <;> simp [binN, hk, N.val] at hv
       | some ty => cases ty with
         | int _ => cases op <;> simp [binN, hk, N.val] at hv
         | str => cases op <;> simp [binN, hk, N.val] at hv
         | sl _ => cases op <;> simp [binN, hk, N.val] at hv
         | bool =>
           obtain ⟨u, hu, hud⟩ := hT.kind t .bool hk; have := hq u hu hud
           cases op <;> simp only [binN, hk] at hv <;> try (simp [N.val] at hv; done)
           · exact fin (.bool (p == q)) (.bool (p == q)) rfl hv hg (fun w' => by simp [binOp, this w'])
           · exact fin (.bool (!(p == q))) (.bool (!(p == q))) rfl hv hg (fun w' => by simp [binOp, this w'])
     · rename_i p q; have e1 : ux = .string p := hx; have e2 : uy = .string q := hy; subst e1 e2; have hg := fun w' => eqGuard_plain (P := P) (w := w') op t ox oy (.string p) (.string q) (by simp) (by simp)
       simp only [binN] at hv
       cases op <;> simp only at hv <;> try (simp [N.val] at hv; done)
       · obtain ⟨hb, hv⟩ := brN_fail hv; have hb := Nat.le_of_ble_eq_true hb; unfold lim at hb; refine fin (.str (p ++ q)) (.string (p ++ q)) rfl hv hg (fun w' => ?_); have : ¬ ((p.size + q.size : Nat) : Int) > IntKind.i64.max := by
           have : IntKind.i64.max = 9223372036854775807 := by decide
           omega
         simp only [binOp, Op.stringOp]; rw [if_neg this]; rfl
       · exact fin (.bool (strEq p q)) (.bool (strEq p q)) rfl hv hg (fun w' => by simp [binOp, Op.stringOp, strEq])
       · exact fin (.bool (!strEq p q)) (.bool (!strEq p q)) rfl hv hg (fun w' => by simp [binOp, Op.stringOp, strEq])
     · have e1 : ux = .slice none 0 0 := hx; have e2 : uy = .slice none 0 0 := hy; subst e1 e2; have hg := fun w' => eqGuard_plain (P := P) (w := w') op t ox oy (.slice none 0 0) (.slice none 0 0) (by simp) (by simp)
       simp only [binN] at hv
       cases he : T.elem t with
       | none => cases op <;> simp [he, N.val] at hv
       | some p =>
         obtain ⟨e, i, z, hu, _⟩ := hT.elem t p.1 p.2 he; have hq := fun w' => run_equal_slice_nil (P := P) w' t e none 0 0 hu
         cases op <;> simp only [he] at hv <;> try (simp [N.val] at hv; done)
         · exact fin (.bool true) (.bool true) rfl hv hg (fun w' => by simp [binOp, hq w'])
         · exact fin (.bool false) (.bool false) rfl hv hg (fun w' => by simp [binOp, hq w'])
     · rename_i r xs; have e2 : uy = .slice none 0 0 := hy; subst e2; obtain ⟨h1, h2⟩ := hx; rcases (repSl _ _ _ _ _).1 h1 with ⟨h3, _⟩ | ⟨a0, cap, h3, _⟩
       · exact absurd h3 h2
       · subst h3; have hg := fun w' => eqGuard_plain (P := P) (w := w') op t ox oy (.slice (some a0) (List.length xs) cap) (.slice none 0 0) (by simp) (by simp)
         simp only [binN] at hv
         cases he : T.elem t with
         | none => cases op <;> simp [he, N.val] at hv
         | some p =>
           obtain ⟨e, i, z, hu, _⟩ := hT.elem t p.1 p.2 he; have hq := fun w' => run_equal_slice_nil (P := P) w' t e (some a0) (List.length xs) cap hu
           cases op <;> simp only [he] at hv <;> try (simp [N.val] at hv; done)
           · exact fin (.bool false) (.bool false) rfl hv hg (fun w' => by simp [binOp, hq w'])
           · exact fin (.bool true) (.bool true) rfl hv hg (fun w' => by simp [binOp, hq w'])
theorem descStr {P : Program} {T : Tab} (hT : TabOk P T) {t : Nat} (h : T.kind t = some .str) : P.underlying t = some .string := by
 obtain ⟨u, hu, hd⟩ := hT.kind t .str h; simp only [descOf] at hd; rw [hu, hd]
theorem slice_value {w0 : World} {mu : Mu} {c : Cz} {st : St} {a : Act} {w : World} (_h : Rel w0 mu c st a w) {a' j g : Nat} {vw : View} {A : Arr} {u : Value} (hA : arr? st a' j g = some A)
   (hu : RelC c st w (.ref a' j g vw) u) : ∃ ad k, u = .slice ad (vw.app A.xs).length k := by
 have hs := hu.2.2 A hA
 cases hl : c.lc a' j with
 | nil => unfold SlAt at hs; rw [hl] at hs; exact ⟨none, 0, by rw [hs.2]; exact hs.1⟩
 | «at» b off cap => unfold SlAt at hs; rw [hl] at hs; obtain ⟨ad, k, h1, _⟩ := hs; exact ⟨some ad, k, h1⟩
theorem lenN_ok {P : Program} {T : Tab} (hT : TabOk P T) {w0 : World} {mu : Mu} {c : Cz} {st : St} {a : Act} {w : World} (h : Rel w0 mu c st a w)
   {d : Option Nat} {t ty : Nat} {x : V} {ux : Value} (hx : RelV c st w x ux) {st' : St} (hv : (lenN T st d t x).val = some st') (hd : ∀ k, d = some k → k < a.tmps.size) :
   ∃ v, (∀ w' : World, (Builtin.len_ #[t] ty #[ux]).run P w' = .ok v w') ∧ Rel w0 mu c st' (a.put d v) w := by
 have sl : ∀ (n : Nat) (ad : Option Addr) (k : Nat), (T.elem t).isSome = true → ux = .slice ad n k → (N.done (setV st d (.one (.int .i64 n)))).val = some st' →
     ∃ v, (∀ w' : World, (Builtin.len_ #[t] ty #[ux]).run P w' = .ok v w') ∧ Rel w0 mu c st' (a.put d v) w := by
   intro n ad k he hu hst; simp only [N.val, Option.some.injEq] at hst; subst hst
   cases hq : T.elem t with
   | none => simp [hq] at he
   | some p =>
     obtain ⟨r, b⟩ := p; obtain ⟨e, _, _, hd1, _⟩ := hT.elem t r b hq; subst hu; exact ⟨.int .i64 n, (fun w' => by simp [Builtin.len_, run_underlying hd1, goInt]), h.setV (u := .int .i64 n) rfl hd⟩
 cases x with
 | agg _ => simp [lenN, N.val] at hv
 | tup _ => simp [lenN, N.val] at hv
 | one cx => cases cx with
   | str s =>
     simp only [lenN] at hv
     cases hk : T.kind t with
     | none => simp [hk, N.val] at hv
     | some y => cases y with
       | str =>
         simp only [hk, N.val, Option.some.injEq] at hv; subst hv; have e : ux = .string s := hx; subst e; exact ⟨.int .i64 s.size, (fun w' => by simp [Builtin.len_, run_underlying (descStr hT hk), goInt]), h.setV (u := .int .i64 s.size) rfl hd⟩
       | _ => simp [hk, N.val] at hv
   | nils =>
     simp only [lenN] at hv
     cases hk : T.elem t with
     | none => simp [hk, N.val] at hv
     | some p => simp only [hk] at hv; exact sl 0 none 0 (by simp [hk]) hx hv
   | shr r xs =>
     simp only [lenN] at hv
     cases hk : T.elem t with
     | none => simp [hk, N.val] at hv
     | some p =>
       simp only [hk] at hv; rcases (repSl _ _ _ _ _).1 hx with ⟨h1, h2⟩ | ⟨ad, k, h1, _⟩
       · exact sl xs.length none 0 (by simp [hk]) (by rw [h1, h2]; rfl) hv
       · exact sl xs.length (some ad) k (by simp [hk]) h1 hv
   | ref a' j g vw =>
     simp only [lenN] at hv
     cases hk : T.elem t with
     | none => simp [hk, N.val] at hv
     | some p =>
       cases hA : arr? st a' j g with
       | none => simp [hk, hA, N.val] at hv
       | some A =>
         simp only [hk, hA] at hv; obtain ⟨ad, k, hu⟩ := slice_value h hA hx; exact sl _ ad k (by simp [hk]) hu hv
   | _ => simp [lenN, N.val] at hv
theorem run_indexAt {P : Program} {t e : TypeId} {i : TypeInfo} (hu : P.underlying t = some (.slice e)) (hi : P.info? e = some i) (w : World) (k : IntKind) (a : Addr) (n c : Nat) (j : Int) (h0 : 0 ≤ j) (hj : j < n) :
   (Instr.indexAt t (.slice (some a) n c) (.int k j)).run P w = .ok (.pointer (some (a.add (j.toNat * i.size)))) w := by
 simp [Instr.indexAt, asIntOf, run_underlying hu, sizeOf, typeInfo, hi, h0, hj]
theorem indexN_ok {P : Program} {T : Tab} (hT : TabOk P T) {w0 : World} {mu : Mu} {c : Cz} {st : St} {a : Act} {w : World} (h : Rel w0 mu c st a w)
   {d : Option Nat} {t : Nat} {x y : V} {ux uy : Value} (hx : RelV c st w x ux) (hy : RelV c st w y uy) {st' : St} (hv : (indexN T st d t x y).val = some st') (hd : ∀ k, d = some k → k < a.tmps.size) :
   ∃ v, (∀ w' : World, (Instr.indexAt t ux uy).run P w' = .ok v w') ∧ Rel w0 mu c st' (a.put d v) w := by
 cases ht : T.elem t with
 | none => simp [indexN, ht, N.val] at hv
 | some p =>
   obtain ⟨q, bytes⟩ := p; obtain ⟨e, i, z, hu, hi, hsz, hwid, _, _, _, _⟩ := hT.elem t q bytes ht; have rd : ∀ (ys : List (denR q)) (k : IntKind) (j : Int), uy = .int k j → RepTy w c.ok (.sl q) ux ys → (N.br (decide (0 ≤ j)) (.row q ys[j.toNat]? fun y => .done (setV st d (.one (.rpt q y 0)))) .fail).val = some st' →
       ∃ v, (∀ w' : World, (Instr.indexAt t ux uy).run P w' = .ok v w') ∧ Rel w0 mu c st' (a.put d v) w := by
     intro ys k j huy hrep hv; obtain ⟨hj, hv⟩ := brN_fail hv; have hj := of_decide_eq_true hj
     cases hr : ys[j.toNat]? with
     | none => simp [hr, N.val] at hv
     | some y =>
       simp only [hr] at hv; change some _ = some st' at hv; obtain rfl := Option.some.inj hv; have hlt : j.toNat < ys.length := (List.getElem?_eq_some_iff.1 hr).1; rcases (repSl _ _ _ _ _).1 hrep with ⟨_, h2⟩ | ⟨ad, cap, h1, h2, h3, h4⟩
       · rw [h2] at hlt; simp at hlt
       · subst h1 huy; have hne : ys ≠ [] := by intro e; rw [e] at hlt; simp at hlt
         obtain ⟨g1, g2, g3⟩ := h3 hne; refine ⟨_, (fun w' => run_indexAt hu hi w' k ad ys.length cap j hj (by omega)), h.setV (v := .one (.rpt q y 0)) ?_ hd⟩; have had : ad = ⟨ad.block, ad.off, none⟩ := by cases ad; simp at g1 ⊢; exact g1
         refine ⟨ad.block, ad.off + j.toNat * q.width, ?_, g2, g3, h4 _ y hr⟩; rw [had, Addr.add_mid, hsz]; rfl
   cases x with
   | agg _ => cases y <;> simp [indexN, ht, N.val] at hv
   | tup _ => cases y <;> simp [indexN, ht, N.val] at hv
   | one cx => cases y with
     | agg _ => cases cx <;> simp [indexN, ht, N.val] at hv
     | tup _ => cases cx <;> simp [indexN, ht, N.val] at hv
     | one cy => cases cx with
       | shr r xs => cases cy with
         | int k j =>
           simp only [indexN, ht] at hv
           cases hc : castL q xs with
           | none => simp [hc, N.val] at hv
           | some ys =>
             simp only [hc] at hv; obtain ⟨rfl, rfl⟩ := castL_some hc; exact rd _ k j hy hx hv
         | _ => simp [indexN, ht, N.val] at hv
       | ref a' j g vw => cases cy with
         | int k n =>
           simp only [indexN, ht] at hv
           cases hA : arr? st a' j g with
           | none => simp [hA, N.val] at hv
           | some A =>
             simp only [hA] at hv
             cases hc : castL q A.xs with
             | none => simp [hc, N.val] at hv
             | some ys =>
               simp only [hc] at hv; obtain ⟨e', he⟩ := castL_some hc; subst e'; simp only at he; subst he; obtain ⟨sl, hs1, hs2, hs3⟩ := arr?_some hA; have hao := h.arrs a' j sl A hs1 hs3
               cases ho : A.own with
               | false =>
                 simp only [ho] at hv; have hmd : A.md = .sh := by
                   cases hm : A.md with
                   | sh => rfl
                   | dp => rw [hm] at hv; simp [Md.is, N.val] at hv
                   | ho _ => rw [hm] at hv; simp [Md.is, N.val] at hv
                 rw [hmd] at hv; simp only [Md.is, Bool.not_true, cond_false] at hv; refine rd _ k n hy ?_ hv; refine slAt_rep hao (hx.2.2 A hA) (fun _ h => h) (fun b hq _ => ?_) (by rw [hmd]; rfl); rw [ho, hmd] at hq; rcases hq with hq | hq <;> cases hq
               | true =>
                 simp only [ho] at hv; obtain ⟨hn, hv⟩ := brN_fail hv; obtain ⟨hlt, hv⟩ := brN_fail hv; have hn := of_decide_eq_true hn; have hlt : n.toNat < (vw.app A.xs).length := by simp [Nat.blt] at hlt; omega
                 simp only [N.val, Option.some.injEq] at hv; subst hv; have hs := hx.2.2 A hA; have euy : uy = .int k n := hy; subst euy
                 cases hl : c.lc a' j with
                 | nil => unfold SlAt at hs; rw [hl] at hs; omega
                 | «at» b off cap =>
                   unfold SlAt at hs; rw [hl] at hs; obtain ⟨ad, cc, rfl, hcc, hcap, had⟩ := hs; have hc0 : cc ≠ 0 := by omega
                   refine ⟨_, (fun w' => run_indexAt hu hi w' k ad _ cc n hn (by omega)), h.setV (v := .one (.ept a' j g _ 0)) ?_ hd⟩; have hidx : vw.idx n.toNat = vw.lo + n.toNat := by cases vw <;> simp [View.lo, View.idx]
                   rw [hidx]; have hget : A.xs[vw.lo + n.toNat]? = some (vw.app A.xs)[n.toNat] := View.app_get vw A.xs (List.getElem?_eq_getElem hlt); refine ⟨rfl, hx.2.1, fun A2 hA2 => ?_⟩; rw [hA] at hA2; obtain rfl := Option.some.inj hA2; refine ⟨(List.getElem?_eq_some_iff.1 hget).1, b, off, cap, hl, ?_⟩; rw [had hc0, Addr.add_mid, hsz, Nat.add_mul]; simp only [Nat.add_zero]; rw [Nat.add_assoc]
         | _ => simp [indexN, ht, N.val] at hv
       | _ => cases cy <;> simp [indexN, ht, N.val] at hv
end Go.TM
namespace Go.TM
open Go Go.RowKit
def BdRel (c : Cz) (st : St) (w : World) : Option V → Option Value → Prop
 | none, u => u = none
 | some v, u => ∃ x, u = some x ∧ RelV c st w v x
def Bd (o : Option Value) (l : Option Nat) : Prop :=
 match l with
 | none => o = none
 | some l => ∃ k, o = some (.int k l)
theorem withBounds_ok {c : Cz} {st : St} {w : World} {n : Nat} {lo hi : Option V} {ul uh : Option Value} (hl : BdRel c st w lo ul) (hh : BdRel c st w hi uh) {k : Option Nat → Option Nat → N} {st' : St}
   (hv : (withBounds n lo hi k).val = some st') : ∃ l h, (k l h).val = some st' ∧ Bd ul l ∧ Bd uh h ∧ l.getD 0 ≤ h.getD n ∧ h.getD n ≤ n := by
 unfold withBounds at hv; simp only at hv; have hiC : ∀ (l : Option Nat), (hi = none → l.getD 0 ≤ n) → (match hi with
     | none => k l none
     | some (.one (.int _ h)) => .br (decide ((match l with | some l => (l : Int) | none => 0) ≤ h)) (.br (decide (h ≤ n)) (k l (some h.toNat)) .fail) .fail
     | _ => .fail).val = some st' → ∃ h, (k l h).val = some st' ∧ Bd uh h ∧ l.getD 0 ≤ h.getD n ∧ h.getD n ≤ n := by
   intro l hln hv
   cases hi with
   | none => exact ⟨none, hv, hh, hln rfl, Nat.le_refl _⟩
   | some v => cases v with
     | agg _ => simp [N.val] at hv
     | tup _ => simp [N.val] at hv
     | one x => cases x with
       | int q h =>
         simp only at hv; obtain ⟨h1, hv⟩ := brN_fail hv; obtain ⟨h2, hv⟩ := brN_fail hv; have h1 := of_decide_eq_true h1; have h2 := of_decide_eq_true h2; obtain ⟨x, rfl, hx⟩ := hh; have e : x = .int q h := hx; subst e; have h0 : 0 ≤ h := by cases l <;> simp at h1 <;> omega
         refine ⟨some h.toNat, hv, ⟨q, by rw [Int.toNat_of_nonneg h0]⟩, ?_, by simp; omega⟩
         cases l <;> simp at h1 ⊢; omega
       | _ => simp [N.val] at hv
 cases lo with
 | none =>
   obtain ⟨h, g1, g2, g3, g4⟩ := hiC none (fun _ => Nat.zero_le _) hv; exact ⟨none, h, g1, hl, g2, g3, g4⟩
 | some v => cases v with
   | agg _ => simp [N.val] at hv
   | tup _ => simp [N.val] at hv
   | one x => cases x with
     | int q l =>
       simp only at hv; obtain ⟨h1, hv⟩ := brN_fail hv; have h1 := of_decide_eq_true h1; obtain ⟨x, rfl, hx⟩ := hl; have e : x = .int q l := hx; subst e; have hb : Bd (some (.int q l)) (some l.toNat) := ⟨q, by rw [Int.toNat_of_nonneg h1]⟩
       cases hi with
       | none =>
         simp only at hv; obtain ⟨h2, hv⟩ := brN_fail hv; have h2 := of_decide_eq_true h2; obtain ⟨h, g1, g2, g3, g4⟩ := hiC (some l.toNat) (fun _ => by simp; omega) hv; exact ⟨some l.toNat, h, g1, hb, g2, g3, g4⟩
       | some v =>
         obtain ⟨h, g1, g2, g3, g4⟩ := hiC (some l.toNat) (fun e => by cases e) hv; exact ⟨some l.toNat, h, g1, hb, g2, g3, g4⟩
     | _ => simp [N.val] at hv
theorem run_bounds {P : Program} {w : World} {n cap : Nat} {ul uh : Option Value} {l h : Option Nat} (b : Bool) (hl : Bd ul l) (hh : Bd uh h) (h1 : l.getD 0 ≤ h.getD n) (h2 : h.getD n ≤ n) (hc : n ≤ cap) :
   (Instr.sliceBounds b n cap ul uh none).run P w = .ok (l.getD 0, h.getD n, cap) w := by
 have key : ∀ (q : IntKind) (y m : Nat) (code : BoundsCode), y ≤ m → (Instr.sliceBound (.int q y) m code).run P w = .ok y w := by
   intro q y m code hy; simp [Instr.sliceBound, asIntOf, hy]
 cases l with
 | none =>
   simp only [Bd] at hl; subst hl
   cases h with
   | none =>
     simp only [Bd] at hh; subst hh; simp [Instr.sliceBounds]
   | some h =>
     obtain ⟨q, rfl⟩ := hh; simp at h2; simp [Instr.sliceBounds, key q h cap _ (by omega)]
 | some l =>
   obtain ⟨q, rfl⟩ := hl
   cases h with
   | none =>
     simp only [Bd] at hh; subst hh; simp at h1; simp [Instr.sliceBounds, key q l n _ h1]
   | some h =>
     obtain ⟨q', rfl⟩ := hh; simp at h1 h2; simp [Instr.sliceBounds, key q' h cap _ (by omega), key q l h _ h1]
theorem View.of_spec {α : Type} (w : View) (xs : List α) (l h : Option Nat) (h1 : l.getD 0 ≤ h.getD (w.app xs).length) (h2 : h.getD (w.app xs).length ≤ (w.app xs).length) :
   (w.of (w.app xs).length l h).lo = w.lo + l.getD 0 ∧ ((w.of (w.app xs).length l h).app xs).length = h.getD (w.app xs).length - l.getD 0 := by
 cases w with
 | full => cases l <;> cases h <;> simp [View.of, View.lo, View.app] at h1 h2 ⊢ <;> omega
 | «from» a => cases l <;> cases h <;> simp [View.of, View.lo, View.app] at h1 h2 ⊢ <;> omega
 | sub a m => cases l <;> cases h <;> simp [View.of, View.lo, View.app] at h1 h2 ⊢ <;> omega
theorem viewOf_eq (n : Nat) (l h : Option Nat) : viewOf n l h = View.full.of n l h := by
 cases l <;> cases h <;> simp [viewOf, View.of, View.lo]
theorem run_sliceAt {P : Program} {t e : TypeId} {i : TypeInfo} (hu : P.underlying t = some (.slice e)) (hi : P.info? e = some i) {w : World} {a : Option Addr} {n cap : Nat} {ul uh : Option Value} {l h : Option Nat}
   (hl : Bd ul l) (hh : Bd uh h) (h1 : l.getD 0 ≤ h.getD n) (h2 : h.getD n ≤ n) (hc : n ≤ cap) :
   (Instr.sliceAt t (.slice a n cap) ul uh none).run P w = .ok (.slice (if cap = l.getD 0 then a else a.map (·.add (l.getD 0 * i.size))) (h.getD n - l.getD 0) (cap - l.getD 0)) w := by
 have hb := run_bounds (P := P) (w := w) true hl hh h1 h2 hc; simp [Instr.sliceAt, Instr.slice, run_underlying hu, sizeOf, typeInfo, hi, hb]
theorem sliceN_ok {P : Program} {T : Tab} (hT : TabOk P T) {w0 : World} {mu : Mu} {c : Cz} {st : St} {a : Act} {w : World} (h : Rel w0 mu c st a w)
   {d : Option Nat} {t : Nat} {x : V} {ux : Value} {lo hi : Option V} {ul uh : Option Value} (hx : RelV c st w x ux) (hl : BdRel c st w lo ul) (hh : BdRel c st w hi uh) {st' : St}
   (hv : (sliceN T st d t x lo hi).val = some st') (hd : ∀ k, d = some k → k < a.tmps.size) :
   ∃ v, (∀ w' : World, (Instr.sliceAt t ux ul uh none).run P w' = .ok v w') ∧ Rel w0 mu c st' (a.put d v) w := by
 cases x with
 | agg _ => simp [sliceN, N.val] at hv
 | tup _ => simp [sliceN, N.val] at hv
 | one cx => cases cx with
   | str s =>
     simp only [sliceN] at hv
     cases hk : T.kind t with
     | none => simp [hk, N.val] at hv
     | some y => cases y with
       | str =>
         simp only [hk] at hv; obtain ⟨l, q, hv, g1, g2, g3, g4⟩ := withBounds_ok hl hh hv; simp only [N.val, Option.some.injEq] at hv; subst hv; have e : ux = .string s := hx; subst e; have hb := fun w' : World => run_bounds (P := P) (w := w') false g1 g2 g3 g4 (Nat.le_refl _)
         refine ⟨.string (s.extract (l.getD 0) (q.getD s.size)), (fun w' => by simp [Instr.sliceAt, Instr.slice, run_underlying (descStr hT hk), hb w']), ?_⟩; exact h.setV (v := .one (.str _)) rfl hd
       | _ => simp [hk, N.val] at hv
   | nils =>
     simp only [sliceN] at hv
     cases hk : T.elem t with
     | none => simp [hk, N.val] at hv
     | some p =>
       obtain ⟨r, b⟩ := p; simp only [hk] at hv; obtain ⟨e, i, z, hu, hi, _⟩ := hT.elem t r b hk; obtain ⟨l, q, hv, g1, g2, g3, g4⟩ := withBounds_ok hl hh hv; simp only [N.val, Option.some.injEq] at hv; subst hv; have eu : ux = .slice none 0 0 := hx; subst eu; have hr := fun w' : World => run_sliceAt (P := P) (w := w') (a := none) hu hi g1 g2 g3 g4 (Nat.le_refl 0)
       have e1 : l.getD 0 = 0 := by omega
       have e2 : q.getD 0 = 0 := by omega
       simp only [e1, e2] at hr; exact ⟨_, hr, h.setV (v := .one .nils) rfl hd⟩
   | shr r xs =>
     simp only [sliceN] at hv
     cases hk : T.elem t with
     | none => simp [hk, N.val] at hv
     | some p =>
       obtain ⟨r', b⟩ := p; simp only [hk] at hv
       cases hc : castL r' xs with
       | none => simp [hc, N.val] at hv
       | some ys =>
         simp only [hc] at hv; obtain ⟨rfl, hq⟩ := castL_some hc
         replace hq : xs = ys := hq.symm
         subst hq; obtain ⟨e, i, z, hu, hi, hsz, hwid, _⟩ := hT.elem t r b hk; obtain ⟨l, q, hv, g1, g2, g3, g4⟩ := withBounds_ok hl hh hv; simp only [N.val, Option.some.injEq] at hv; subst hv; have hsp := View.of_spec .full xs l q g3 g4; rw [viewOf_eq]; rcases (repSl _ _ _ _ _).1 hx with ⟨rfl, rfl⟩ | ⟨ad, cap, rfl, h2, h3, h4⟩
         · have hr := fun w' : World => run_sliceAt (P := P) (w := w') (a := none) hu hi g1 g2 g3 g4 (Nat.le_refl 0)
           simp at g3 g4; have e1 : l.getD 0 = 0 := by omega
           have e2 : q.getD 0 = 0 := by omega
           simp only [e1, show q.getD ([] : List (denR r)).length = 0 from e2] at hr; refine ⟨_, hr, h.setV (v := .one (.shr r _)) ?_ hd⟩; refine (repSl _ _ _ _ _).2 (.inl ⟨rfl, ?_⟩); have := hsp.2; simp [View.app] at this ⊢
           cases hw : View.full.of 0 l q <;> simp
         · have hr := fun w' : World => run_sliceAt (P := P) (w := w') (a := some ad) hu hi g1 g2 g3 g4 h2
           refine ⟨_, hr, h.setV (v := .one (.shr r _)) ?_ hd⟩; have hlen : ((View.full.of xs.length l q).app xs).length = q.getD xs.length - l.getD 0 := hsp.2; refine (repSl _ _ _ _ _).2 (.inr ⟨if cap = l.getD 0 then ad else ad.add (l.getD 0 * i.size), cap - l.getD 0, ?_, by rw [hlen]; omega, fun hne => ?_, fun j y hy => ?_⟩)
           · rw [hlen]
             congr 1
             by_cases e : cap = l.getD 0 <;> simp [e]
           · have hp : 0 < q.getD xs.length - l.getD 0 := by rw [← hlen]; exact List.length_pos_iff.2 hne
             have hxne : xs ≠ [] := by intro e; subst e; simp at g4 hp; omega
             obtain ⟨k1, k2, k3⟩ := h3 hxne; have had : ad = ⟨ad.block, ad.off, none⟩ := by cases ad; simp at k1 ⊢; exact k1
             rw [if_neg (by omega), had, Addr.add_mid]; exact ⟨rfl, k2, k3⟩
           · have hj : j < q.getD xs.length - l.getD 0 := by rw [← hlen]; exact (List.getElem?_eq_some_iff.1 hy).1
             have hxne : xs ≠ [] := by intro e; subst e; simp at g4 hj; omega
             obtain ⟨k1, k2, k3⟩ := h3 hxne; have had : ad = ⟨ad.block, ad.off, none⟩ := by cases ad; simp at k1 ⊢; exact k1
             rw [if_neg (by omega), had, Addr.add_mid]; have hget := View.app_get (View.full.of xs.length l q) xs hy; rw [show (View.full.of xs.length l q).lo = l.getD 0 by have h9 : (View.full.of xs.length l q).lo = View.full.lo + l.getD 0 := hsp.1; rw [h9]; simp [View.lo]] at hget; have := h4 _ y hget; rw [Nat.add_mul] at this; rw [hsz]; simp only; rw [Nat.add_assoc]; exact this
   | ref a' j g vw =>
     simp only [sliceN] at hv
     cases hk : T.elem t with
     | none => simp [hk, N.val] at hv
     | some p =>
       obtain ⟨r', b⟩ := p; simp only [hk] at hv
       cases hA : arr? st a' j g with
       | none => simp [hA, N.val] at hv
       | some A =>
         simp only [hA] at hv
         cases hc : castL r' A.xs with
         | none => simp [hc, N.val] at hv
         | some ys =>
           simp only [hc] at hv; obtain ⟨e', he⟩ := castL_some hc; subst e'; simp only at he; subst he; obtain ⟨e, i, z, hu, hi, hsz, hwid, _⟩ := hT.elem t A.r b hk; obtain ⟨l, q, hv, g1, g2, g3, g4⟩ := withBounds_ok hl hh hv; simp only [N.val, Option.some.injEq] at hv; subst hv; have hsp := View.of_spec vw A.xs l q g3 g4; have hs := hx.2.2 A hA
           cases hlc : c.lc a' j with
           | nil =>
             unfold SlAt at hs; rw [hlc] at hs; obtain ⟨rfl, hn⟩ := hs; rw [hn] at g3 g4; have hr := fun w' : World => run_sliceAt (P := P) (w := w') (a := none) hu hi g1 g2 g3 g4 (Nat.le_refl 0)
             have e1 : l.getD 0 = 0 := by omega
             have e2 : q.getD 0 = 0 := by omega
             simp only [e1, e2] at hr; refine ⟨_, hr, h.setV (v := .one (.ref a' j g _)) ⟨rfl, hx.2.1, fun A2 hA2 => ?_⟩ hd⟩; rw [hA] at hA2; obtain rfl := Option.some.inj hA2; rw [hlc]; refine ⟨by simp, ?_⟩; rw [hsp.2, hn]; omega
           | «at» bb off cap =>
             unfold SlAt at hs; rw [hlc] at hs; obtain ⟨ad, cc, rfl, hcc, hcap, had⟩ := hs; have hr := fun w' : World => run_sliceAt (P := P) (w := w') (a := some ad) hu hi g1 g2 g3 g4 hcc
             refine ⟨_, hr, h.setV (v := .one (.ref a' j g _)) ⟨?_, hx.2.1, fun A2 hA2 => ?_⟩ hd⟩
             · by_cases e : cc = l.getD 0 <;> simp [e, Value.oneCell']
             · rw [hA] at hA2; obtain rfl := Option.some.inj hA2; rw [hlc]; refine ⟨if cc = l.getD 0 then ad else ad.add (l.getD 0 * i.size), cc - l.getD 0, ?_, by rw [hsp.2]; omega, by rw [hsp.1]; omega, fun hne => ?_⟩
               · rw [hsp.2]
                 congr 1
                 by_cases e : cc = l.getD 0 <;> simp [e]
               · rw [if_neg (by omega), had (by omega), Addr.add_mid, hsp.1, hsz, Nat.add_mul, Nat.add_assoc]
   | _ => simp [sliceN, N.val] at hv
end Go.TM
namespace Go.TM
open Go Go.RowKit
theorem Fw.grow {w0 : World} {mu : Mu} {c : Cz} {st : St} {a : Act} {w : World} (h : Rel w0 mu c st a w) (o : Obj) : Fw c st w c st (w.alloc o) where
 stays := stays_alloc w _ _ _ fun _ _ h => h
 refs a' j g A' _ hA' := ⟨A', hA', rfl, rfl, rfl, fun _ => ⟨rfl, fun b oo cap hlc => heap_alloc_old w _ b ((h.arrOf (g := g) hA').lt hlc)⟩⟩
 bxs _ _ cs' _ hb := ⟨⟨cs', hb⟩, rfl⟩
 gA _ := Nat.le_refl _
 gB _ := Nat.le_refl _
 gE _ := Nat.le_refl _
theorem Rel.grow {w0 : World} {mu : Mu} {c : Cz} {st : St} {a : Act} {w : World} (h : Rel w0 mu c st a w) (o : Obj) : Rel w0 mu c st a (w.alloc o) where
 regs t := (Fw.grow h o).relV (h.regs t)
 boxes s sl cs hs hb := by
   have hb0 := h.boxes s sl cs hs hb; exact hb0.go (Fw.grow h o) rfl rfl (heap_alloc_old w _ _ (h.own_lt hb0.1))
 arrs s j sl A hs hA := (h.arrs s j sl A hs hA).go (Fw.grow h o).stays rfl fun b hb => ⟨heap_alloc_old w _ b (h.own_lt hb), rfl⟩
 owned b l hb := ⟨Nat.lt_of_lt_of_le (h.owned b l hb).1 (by simp), (h.owned b l hb).2⟩
 free := h.free
 kept := ⟨h.kept.1, h.kept.2.1, h.kept.2.2.1, Nat.le_trans h.kept.2.2.2 (by simp)⟩
 old k hk hm := by
   rw [heap_alloc_old w _ k (Nat.lt_of_lt_of_le hk h.kept.2.2.2)]; exact h.old k hk hm
 anch p hp := (Fw.grow h o).anch (h.anch p hp)
 plain := h.plain
theorem RelL.cons1 {c : Cz} {st : St} {w : World} {x : CV} {cs : List CV} {vs : List Value} (h : RelL c st w (x :: cs) vs) : ∃ v l, vs = v :: l ∧ RelC c st w x v ∧ RelL c st w cs l := by
 obtain ⟨h1, h2⟩ := h
 cases vs with
 | nil => simp at h1
 | cons v l => exact ⟨v, l, rfl, h2 0 x v rfl rfl, by simpa using h1, fun i y u hy hu => h2 (i + 1) y u (by simpa using hy) (by simpa using hu)⟩
theorem repRNil {w : World} {ok : Nat → Prop} {b off : Nat} (x : denR .nil) : RepR w ok .nil b off x := by unfold RepR; trivial
theorem repRCons {w : World} {ok : Nat → Prop} {t : Ty} {r : RT} {b off : Nat} {x : denR (.cons t r)} : RepR w ok (.cons t r) b off x ↔ (∃ v, w.cell? ⟨b, off, none⟩ = some v ∧ RepTy w ok t v x.1) ∧ RepR w ok r b (off + 1) x.2 := by
 constructor
 · intro h; unfold RepR at h; exact h
 · intro h; unfold RepR; exact h
theorem plainRow_ok {c : Cz} {st : St} {w w' : World} {ok : Nat → Prop} (hs : Stays w w' c.ok ok) {b : Nat} : (cs : List CV) → {r : RT} → {x : denR r} → plainRow cs = some ⟨r, x⟩ → (vs : List Value) → (off : Nat) → RelL c st w cs vs → (∀ (i : Nat) v, vs[i]? = some v → w'.cell? ⟨b, off + i, none⟩ = some v) → RepR w' ok r b off x
 | [], r, x, h, vs, off, _, _ => by
   unfold plainRow at h
   cases h
   exact repRNil _
 | cx :: cs, r, x, h, vs, off, hl, hc => by
   obtain ⟨v, l, rfl, hx, hl'⟩ := hl.cons1; have h0 := hc 0 v rfl; rw [Nat.add_zero] at h0; have hrest : ∀ (i : Nat) u, l[i]? = some u → w'.cell? ⟨b, off + 1 + i, none⟩ = some u := fun i u hu => by
     have := hc (i + 1) u hu
     rwa [show off + (i + 1) = off + 1 + i by omega] at this
   cases cx with
   | int k n =>
     unfold plainRow at h
     cases hq : plainRow cs with
     | none => rw [hq] at h; cases h
     | some p =>
       obtain ⟨r0, x0⟩ := p; rw [hq] at h
       cases h
       have ih := plainRow_ok hs cs hq l (off + 1) hl' hrest; exact repRCons.2 ⟨⟨v, h0, repInt.2 hx⟩, ih⟩
   | bool n =>
     unfold plainRow at h
     cases hq : plainRow cs with
     | none => rw [hq] at h; cases h
     | some p =>
       obtain ⟨r0, x0⟩ := p; rw [hq] at h
       cases h
       have ih := plainRow_ok hs cs hq l (off + 1) hl' hrest; exact repRCons.2 ⟨⟨v, h0, repBool.2 hx⟩, ih⟩
   | str n =>
     unfold plainRow at h
     cases hq : plainRow cs with
     | none => rw [hq] at h; cases h
     | some p =>
       obtain ⟨r0, x0⟩ := p; rw [hq] at h
       cases h
       have ih := plainRow_ok hs cs hq l (off + 1) hl' hrest; exact repRCons.2 ⟨⟨v, h0, repStr.2 hx⟩, ih⟩
   | shr q xs =>
     unfold plainRow at h
     cases hq : plainRow cs with
     | none => rw [hq] at h; cases h
     | some p =>
       obtain ⟨r0, x0⟩ := p; rw [hq] at h
       cases h
       have ih := plainRow_ok hs cs hq l (off + 1) hl' hrest; exact repRCons.2 ⟨⟨v, h0, RepTy.stays hs _ _ _ hx⟩, ih⟩
   | _ => simp [plainRow] at h
def Cz.dropB (c : Cz) (s : Nat) : Cz :=
 { c with own := fun k => match c.own k with | some (.box t) => if t = s then none else some (.box t) | l => l }
theorem Cz.dropB_ok {c : Cz} {s b : Nat} (h : c.ok b) : (c.dropB s).ok b := by
 unfold Cz.ok Cz.dropB at *; simp [h]
theorem Cz.dropB_box {c : Cz} {s b : Nat} (h : c.own b = some (.box s)) : (c.dropB s).ok b := by
 unfold Cz.ok Cz.dropB; simp [h]
theorem Cz.dropB_keep {c : Cz} {s b : Nat} {l : Lb} (h : c.own b = some l) (hne : l ≠ .box s) : (c.dropB s).own b = some l := by
 unfold Cz.dropB; simp only [h]
 cases l with
 | box t =>
   simp only; rw [if_neg]
   rintro rfl
   exact hne rfl
 | _ => rfl
theorem Cz.dropB_some {c : Cz} {s b : Nat} {l : Lb} (h : (c.dropB s).own b = some l) : c.own b = some l := by
 unfold Cz.dropB at h; simp only at h
 cases hc : c.own b with
 | none => simp [hc] at h
 | some l' => cases l' with
   | box t =>
     simp only [hc] at h
     by_cases e : t = s
     · simp [e] at h
     · rw [if_neg e] at h; exact h
   | _ => simp [hc] at h; rw [h]
theorem nth_dropBox (st : St) (b s : Nat) : nth (dropBox st b) s = if s = b then (nth st s).map (fun x => { x with box := none }) else nth st s := by
 unfold dropBox; rw [nth_upd]
theorem dropBox_same (st : St) (b s : Nat) : getV (dropBox st b) s = getV st s ∧ genA (dropBox st b) s = genA st s ∧ genB (dropBox st b) s = genB st s ∧ epO (dropBox st b) s = epO st s ∧ ∀ j g, arr? (dropBox st b) s j g = arr? st s j g := by
 unfold getV genA genB epO arr?; rw [nth_dropBox]
 by_cases e : s = b
 · rw [if_pos e]
   cases nth st s <;> simp
 · rw [if_neg e]; simp
theorem box?_dropBox {st : St} {b s g : Nat} {cs : List CV} (h : box? (dropBox st b) s g = some cs) : s ≠ b ∧ box? st s g = some cs := by
 unfold box? at h ⊢; rw [nth_dropBox] at h
 by_cases e : s = b
 · rw [if_pos e] at h
   cases hx : nth st s with
   | none => rw [hx] at h; cases h
   | some x =>
     rw [hx] at h; simp only [Option.map_some] at h
     cases hb : Nat.beq x.bg g <;> rw [hb] at h <;> cases h
 · rw [if_neg e] at h; exact ⟨e, h⟩
theorem Fw.dropBox (c : Cz) (st : St) (w : World) (s : Nat) : Fw c st w (c.dropB s) (dropBox st s) w where
 stays := ⟨Nat.le_refl _, fun _ _ _ => rfl, fun _ _ h => Cz.dropB_ok h⟩
 refs a' j' g A' _ hA' := ⟨A', by rwa [(dropBox_same st s a').2.2.2.2] at hA', rfl, rfl, rfl, fun _ => ⟨rfl, fun _ _ _ _ => rfl⟩⟩
 bxs b g cs' _ h := ⟨⟨cs', (box?_dropBox h).2⟩, rfl⟩
 gA b := by rw [(dropBox_same st s b).2.1]; exact Nat.le_refl _
 gB b := by rw [(dropBox_same st s b).2.2.1]; exact Nat.le_refl _
 gE b := by rw [(dropBox_same st s b).2.2.2.1]; exact Nat.le_refl _
theorem Rel.dropBox {w0 : World} {mu : Mu} {c : Cz} {st : St} {a : Act} {w : World} (h : Rel w0 mu c st a w) (s : Nat) : Rel w0 mu (c.dropB s) (dropBox st s) a w where
 regs t := by rw [(dropBox_same st s t).1]; exact (Fw.dropBox c st w s).relV (h.regs t)
 boxes b sl cs hs hb := by
   rw [nth_dropBox] at hs
   by_cases e : b = s
   · rw [if_pos e] at hs
     cases hx : nth st b with
     | none => rw [hx] at hs; cases hs
     | some x => rw [hx] at hs; simp at hs; subst hs; cases hb
   · rw [if_neg e] at hs; have h0 := h.boxes b sl cs hs hb; exact h0.go (Fw.dropBox c st w s) rfl (by rw [h0.1]; exact Cz.dropB_keep h0.1 (by intro e'; injection e' with e'; exact e e')) rfl
 arrs b i sl A hs hb := by
   rw [nth_dropBox] at hs; have h0 : ArrOk c w b i A := by
     by_cases e : b = s
     · rw [if_pos e] at hs
       cases hx : nth st b with
       | none => rw [hx] at hs; cases hs
       | some x => rw [hx] at hs; simp at hs; subst hs; exact h.arrs b i x A hx hb
     · rw [if_neg e] at hs; exact h.arrs b i sl A hs hb
   exact h0.go (Fw.dropBox c st w s).stays rfl fun k h1 => ⟨rfl, by rw [h1]; exact Cz.dropB_keep h1 (by intro e; cases e)⟩
 owned b l hb := h.owned b l (Cz.dropB_some hb)
 free b hb h1 := by
   cases hc : c.own b with
   | none => exact h.free b hb hc
   | some l =>
     rcases (h.owned b l hc).2 with h2 | h2 | h2
     · subst h2; unfold Cz.dropB at h1; simp [hc] at h1
     · omega
     · exact .inl h2
 kept := h.kept
 old := h.old
 anch p hp := (Fw.dropBox c st w s).anch (h.anch p hp)
 plain := h.plain
theorem cell_box {w : World} {b : Nat} {vs : Array Value} {ty : TypeId} (h : w.heap[b]? = some (.cells vs ty (0, 0))) {i : Nat} {v : Value} (hv : vs.toList[i]? = some v) : w.cell? ⟨b, i, none⟩ = some v := by
 unfold World.cell?; simp [h]; simpa using hv
theorem nth_rnPtr (st : St) (b g : Nat) (r : RT) (x : denR r) : (s : Nat) → nth (rnPtr st b g r x) s = (nth st s).map fun z => { z with v := rnV b g r x z.v } := by
 unfold rnPtr
 induction st with
 | nil => intro s; rfl
 | cons y st ih => intro s; cases s with
   | zero => rfl
   | succ s => exact ih s
theorem rnPtr_same (st : St) (b g : Nat) (r : RT) (x : denR r) (s : Nat) : getV (rnPtr st b g r x) s = rnV b g r x (getV st s) ∧ genA (rnPtr st b g r x) s = genA st s ∧ genB (rnPtr st b g r x) s = genB st s ∧ epO (rnPtr st b g r x) s = epO st s ∧ (∀ j g', arr? (rnPtr st b g r x) s j g' = arr? st s j g') ∧ ∀ g', box? (rnPtr st b g r x) s g' = box? st s g' := by
 unfold getV genA genB epO arr? box?; rw [nth_rnPtr]
 cases nth st s with
 | none => exact ⟨rfl, rfl, rfl, rfl, fun _ _ => rfl, fun _ => rfl⟩
 | some z => exact ⟨rfl, rfl, rfl, rfl, fun _ _ => rfl, fun _ => rfl⟩
theorem Fw.rnPtr (c : Cz) (st : St) (w : World) (b g : Nat) (r : RT) (x : denR r) : Fw c st w c (rnPtr st b g r x) w where
 stays := ⟨Nat.le_refl _, fun _ _ _ => rfl, fun _ _ h => h⟩
 refs a' j' g' A' _ hA' := ⟨A', by rwa [(rnPtr_same st b g r x a').2.2.2.2.1] at hA', rfl, rfl, rfl, fun _ => ⟨rfl, fun _ _ _ _ => rfl⟩⟩
 bxs b' g' cs' _ h := ⟨⟨cs', by rwa [(rnPtr_same st b g r x b').2.2.2.2.2] at h⟩, rfl⟩
 gA s := by rw [(rnPtr_same st b g r x s).2.1]; exact Nat.le_refl _
 gB s := by rw [(rnPtr_same st b g r x s).2.2.1]; exact Nat.le_refl _
 gE s := by rw [(rnPtr_same st b g r x s).2.2.2.1]; exact Nat.le_refl _
theorem Rel.rnPtr {w0 : World} {mu : Mu} {c : Cz} {st : St} {a : Act} {w : World} (h : Rel w0 mu c st a w) {b g : Nat} {r : RT} {x : denR r} (hp : ∀ t off, getV st t = .one (.ptr b g off) → RelC c st w (.rpt r x off) (a.eval (.tmp t))) : Rel w0 mu c (rnPtr st b g r x) a w where
 regs t := by
   rw [(rnPtr_same st b g r x t).1]; have h0 := (Fw.rnPtr c st w b g r x).relV (h.regs t)
   cases hv : getV st t with
   | one cv => cases cv with
     | ptr b' g' off =>
       rw [hv] at h0; show RelV c (TM.rnPtr st b g r x) w (bif Nat.beq b' b && Nat.beq g' g then .one (.rpt r x off) else .one (.ptr b' g' off)) (a.eval (.tmp t))
       cases hb : Nat.beq b' b && Nat.beq g' g with
       | false => exact h0
       | true =>
         rw [Bool.and_eq_true] at hb; have e1 := Nat.eq_of_beq_eq_true hb.1; have e2 := Nat.eq_of_beq_eq_true hb.2; subst e1 e2; exact hp t off hv
     | _ => rw [hv] at h0; exact h0
   | agg _ => rw [hv] at h0; exact h0
   | tup _ => rw [hv] at h0; exact h0
 boxes s sl cs hs hb := by
   rw [nth_rnPtr] at hs; obtain ⟨z, hz, rfl⟩ := Option.map_eq_some_iff.1 hs; have h0 := h.boxes s z cs hz hb; exact h0.go (Fw.rnPtr c st w b g r x) rfl (by rw [h0.1]) rfl
 arrs s j sl A hs hA := by
   rw [nth_rnPtr] at hs; obtain ⟨z, hz, rfl⟩ := Option.map_eq_some_iff.1 hs; exact h.arrs s j z A hz hA
 owned := h.owned
 free := h.free
 kept := h.kept
 old := h.old
 plain := h.plain
 anch p hp := (Fw.rnPtr c st w b g r x).anch (h.anch p hp)
theorem capN_ok {w0 : World} {mu : Mu} {c : Cz} {st st' : St} {a : Act} {w : World} (h : Rel w0 mu c st a w) {t : Nat} {r : RT} {ys : List (denR r)} (hc : capN st t = some (st', ⟨r, ys⟩)) :
   ∃ c', Rel w0 mu c' st' a w ∧ Fw c st w c' st' w ∧ PtrAt w c'.ok r (a.eval (.tmp t)) ys := by
 have hx := h.regs t; unfold capN at hc
 split at hc
 · rename_i r' x' off e; obtain ⟨h1, hc⟩ := bif_some hc; have h1 := Nat.eq_of_beq_eq_true h1; subst h1
   cases hc
   rw [e] at hx; obtain ⟨b, o, e1, e2, e3, e4⟩ := hx; refine ⟨c, h, Fw.refl c st w, b, o, e1, e2, e3, fun y hy => ?_⟩; simp at hy; subst hy; exact e4
 · rename_i r' xs off e; obtain ⟨h1, hc⟩ := bif_some hc; have h1 := Nat.eq_of_beq_eq_true h1; subst h1
   cases hc
   rw [e] at hx; obtain ⟨b, o, e1, e2, e3, e4⟩ := hx; exact ⟨c, h, Fw.refl c st w, b, o, e1, e2, e3, e4⟩
 · rename_i b g off e
   cases hb : box? st b g with
   | none => rw [hb] at hc; cases hc
   | some cs =>
     rw [hb] at hc; simp only at hc; obtain ⟨h1, hc⟩ := bif_some hc; have h1 := Nat.eq_of_beq_eq_true h1; subst h1
     cases hp : plainRow cs with
     | none => rw [hp] at hc; cases hc
     | some p =>
       obtain ⟨r0, x0⟩ := p; rw [hp] at hc
       cases hc
       rw [e] at hx; have hu := hx.2.2 cs hb; obtain ⟨sl, hs1, hs2, hs3⟩ := box?_some hb; obtain ⟨ho, vs, ty, hh, hl⟩ := h.boxes b sl cs hs1 hs3; have hrep : RepR w (c.dropB b).ok r (c.bx b) 0 x0 := by
         refine plainRow_ok (Fw.dropBox c st w b).stays cs hp vs.toList 0 hl fun i v hv => ?_
         rw [Nat.zero_add]; exact cell_box hh hv
       refine ⟨_, (h.dropBox b).rnPtr (fun t' off' hv => ?_), (Fw.dropBox c st w b).trans (Fw.rnPtr _ _ w _ _ _ _), c.bx b, 0, hu, h.own_lt ho, Cz.dropB_box ho, fun y hy => ?_⟩
       · rw [(dropBox_same st b t').1] at hv; have h2 := h.regs t'; rw [hv] at h2; have hu2 := h2.2.2 cs hb; exact ⟨c.bx b, 0, by rw [Nat.zero_add]; exact hu2, h.own_lt ho, Cz.dropB_box ho, hrep⟩
       · simp at hy; subst hy; exact hrep
 · cases hc
theorem capsN_ok {w0 : World} {mu : Mu} {a : Act} {w : World} : (l : List Operand) → {c : Cz} → {st st' : St} → Rel w0 mu c st a w → {rs : RT} → {x : denR rs} → capsN st l = some (st', ⟨rs, x⟩) →
   ∃ c', Rel w0 mu c' st' a w ∧ Fw c st w c' st' w ∧ CapsAt w c'.ok rs (l.map a.eval) x
 | [], c, st, st', h, rs, x, hc => by
   unfold capsN at hc
   cases hc
   exact ⟨c, h, Fw.refl c st w, rfl⟩
 | .tmp t :: l, c, st, st', h, rs, x, hc => by
   unfold capsN at hc
   cases h1 : capN st t with
   | none => rw [h1] at hc; cases hc
   | some p =>
     obtain ⟨st1, r, y⟩ := p; rw [h1] at hc; simp only at hc
     cases h2 : capsN st1 l with
     | none => rw [h2] at hc; cases hc
     | some p =>
       obtain ⟨st2, rs0, ys⟩ := p; rw [h2] at hc
       cases hc
       obtain ⟨c1, k1, k2, k3⟩ := capN_ok h h1; obtain ⟨c2, g1, g2, g3⟩ := capsN_ok l k1 h2; exact ⟨c2, g1, k2.trans g2, _, _, rfl, k3.stays g2.stays, g3⟩
 | .const _ :: _, _, _, _, _, _, _, hc => by simp [capsN] at hc
 | .func _ :: _, _, _, _, _, _, _, hc => by simp [capsN] at hc
 | .global _ :: _, _, _, _, _, _, _, hc => by simp [capsN] at hc
theorem capVs_ok {c : Cz} {st : St} {w : World} : (rs : RT) → (vs : List Value) → (x : denR rs) → CapsAt w c.ok rs vs x → (capVs rs x).length = vs.length ∧ ∀ (k : Nat) v u, (capVs rs x)[k]? = some v → vs[k]? = some u → RelV c st w v u
 | .nil, vs, x, h => by
   subst h; exact ⟨rfl, fun k v u hv => by simp [capVs] at hv⟩
 | .cons (.sl r) rs, vs, x, h => by
   obtain ⟨v0, l, rfl, ⟨b, o, e1, e2, e3, e4⟩, h2⟩ := h; obtain ⟨g1, g2⟩ := capVs_ok (c := c) (st := st) rs l x.2 h2; refine ⟨by simp [capVs, g1], fun k v u hv hu => ?_⟩
   cases k with
   | zero =>
     simp only [capVs, List.getElem?_cons_zero, Option.some.injEq] at hv hu; subst hv hu; exact ⟨b, o, by rw [Nat.add_zero]; exact e1, e2, e3, e4⟩
   | succ k => exact g2 k v u (by simpa [capVs] using hv) (by simpa using hu)
 | .cons (.int _) _, _, _, h => h.elim
 | .cons .bool _, _, _, h => h.elim
 | .cons .str _, _, _, h => h.elim
end Go.TM
namespace Go.TM
open Go Go.RowKit
def EqOk (P : Program) (T : Tab) : Prop :=
 ∀ t, T.eq t = true → ∀ (c : Cz) (st : St) (w : World) (l m : List CV) (us vs : Array Value) (b : Bool) (op : BinOp) (ox oy : Operand), T.fits t l = true → cellsEq l m = some b →
   RelL c st w l us.toList → RelL c st w m vs.toList → ∀ w' : World, (eqGuard op t ox oy (.agg us) (.agg vs)).run P w' = .ok () w' ∧ (Op.equal t (.agg us) (.agg vs)).run P w' = .ok b w'
def StepK (P : Program) (w0 : World) (mu : Mu) (st' : St) (o : Oper) (a : Act) (w : World) (kp : Bool) : Prop :=
 ∀ Q : Exit → Act → World → Prop, o.wp P a w (fun a' w' => (∃ c', Rel w0 mu c' st' a' w' ∧ a'.tmps.size = a.tmps.size) ∧ (kp = true → Keep w w')) Q
theorem put_size (a : Act) (d : Option Tmp) (v : Value) : (a.put d v).tmps.size = a.tmps.size := by
 cases d <;> simp [Act.put]
theorem step_value {P : Program} {w0 : World} {mu : Mu} {c' : Cz} {st' : St} {o : Oper} {a : Act} {w w' : World} {v : Value} {kp : Bool} (hr : (execOp a.eval o).run P w = .ok (.value v) w') (h : Rel w0 mu c' st' (a.put o.dst v) w') (hk : kp = true → Keep w w') :
   StepK P w0 mu st' o a w kp := by
 intro Q; unfold Oper.wp; rw [hr]; exact ⟨⟨c', h, put_size a _ _⟩, hk⟩
theorem run_v {P : Program} {s : Sem Value} {w w' : World} {v : Value} (h : s.run P w = .ok v w') : (do pure (Next.value (← s)) : Sem Next).run P w = .ok (.value v) w' := by
 simp [Sem.run_bind, h]
theorem partsRel {w0 : World} {mu : Mu} {c : Cz} {st : St} {a : Act} {w : World} (h : Rel w0 mu c st a w) (parts : Array (Nat × Operand)) :
   PartsRel c st w (parts.toList.map fun p => (p.1, opd st p.2)) (parts.map fun (i, x) => (i, a.eval x)).toList := by
 refine ⟨by simp, fun i p u hp hu => ?_⟩; simp only [List.getElem?_map, Array.toList_map] at hp hu
 cases hq : parts.toList[i]? with
 | none => simp [hq] at hp
 | some q =>
   simp only [hq, Option.map_some, Option.some.injEq] at hp hu; subst hp hu; exact ⟨rfl, opd_rel h q.2⟩
theorem bdRel {w0 : World} {mu : Mu} {c : Cz} {st : St} {a : Act} {w : World} (h : Rel w0 mu c st a w) (x : Option Operand) : BdRel c st w (x.map (opd st)) (x.map a.eval) := by
 cases x with
 | none => rfl
 | some x => exact ⟨_, rfl, opd_rel h x⟩
theorem run_bytes {P : Program} {w : World} {ok : Nat → Prop} {u : Value} {ys : List (denR (.cons (.int .u8) .nil))} (h : RdS w ok (.cons (.int .u8) .nil) u ys) : (Conv.bytesToString u).run P w = .ok (.string (bytesOf ys)) w := by
 rcases h with ⟨rfl, rfl⟩ | ⟨a, cap, rfl, hs, hr⟩
 · rfl
 · have key := run_bytesToString (P := P) w a ys.length cap (ys.map byteI) (by
     have h1 : ((ys.map byteI).map (Value.int .u8)).length = ys.length := by simp
     have h2 := run_loadCells_list (P := P) (w := w) a ((ys.map byteI).map (Value.int .u8)) (by
       intro j v hv; rw [List.map_map, List.getElem?_map] at hv
       cases hy : ys[j]? with
       | none => rw [hy] at hv; cases hv
       | some y =>
         rw [hy] at hv; simp only [Option.map_some, Option.some.injEq, Function.comp] at hv; subst hv; have h3 := hr j y hy; unfold RepR at h3; obtain ⟨⟨v, h4, h5⟩, _⟩ := h3; have h5 := repInt.1 h5; subst h5; have hne : ys ≠ [] := by intro e; rw [e] at hy; simp at hy
         have hsp := hs hne; have e : a.add j = ⟨a.block, a.off + j * (RT.cons (.int .u8) .nil).width, none⟩ := by
           simp only [RT.width, Nat.zero_add, Nat.mul_one]; unfold Addr.add
           split
           · rename_i h0; subst h0; obtain ⟨b, o, s⟩ := a; simp at hsp; subst hsp; rfl
           · rfl
         rw [e]; exact h4)
     rw [h1] at h2; exact h2)
   rw [key]
   congr 2
   unfold bytesOf; rw [List.foldl_map]
def Op.isFn : Op → Bool
 | .call { callee := .value (.func _), .. } => true
 | .call { callee := .value (.tmp _), .. } => true
 | _ => false
theorem relV_of1 {c : Cz} {st : St} {w : World} {x : V} {v : Value} (h : RelV1 c st w x v) : RelV c st w x v := by
 cases x with
 | one _ => exact h
 | agg _ => exact h
 | tup _ => exact h.elim
theorem pure_ok {P : Program} {T : Tab} (hT : TabOk P T) (hE : EqOk P T) {S : Sems} {w0 : World} {mu : Mu} {c : Cz} {st : St} {a : Act} {w : World} (h : Rel w0 mu c st a w) {o : Oper} (hk : kindOk S st o .any = true)
   {st' : St} (hv : (opN T S st o).val = some st') (hd : ∀ k, o.dst = some k → k < a.tmps.size) : ∃ v, (∀ w' : World, (execOp a.eval o).run P w' = .ok (.value v) w') ∧ Rel w0 mu c st' (a.put o.dst v) w := by
 have one : ∀ (v : Value), Rel w0 mu c st' (a.put o.dst v) w → (∀ w' : World, (execOp a.eval o).run P w' = .ok (.value v) w') → ∃ v, (∀ w' : World, (execOp a.eval o).run P w' = .ok (.value v) w') ∧ Rel w0 mu c st' (a.put o.dst v) w :=
   fun v h1 h2 => ⟨v, h2, h1⟩
 unfold opN at hv; unfold kindOk at hk
 cases ho : o.op with
 | move x =>
   simp only [ho, N.val, Option.some.injEq] at hv; subst hv; exact one _ (h.setV (opd_rel h x) hd) (fun w' => by simp [execOp, ho])
 | assign x =>
   simp only [ho, N.val, Option.some.injEq] at hv; subst hv; exact one _ (h.setV (opd_rel h x) hd) (fun w' => by simp [execOp, ho])
 | pick x y z =>
   simp only [ho] at hv; have hx := opd_rel h x
   cases hq : opd st x with
   | agg _ => simp [hq, N.val] at hv
   | tup _ => simp [hq, N.val] at hv
   | one cx => cases cx with
     | bool b =>
       rw [hq] at hx; have e : a.eval x = .bool b := hx; simp only [hq] at hv; rcases brN_some hv with ⟨hb, hv1⟩ | ⟨hb, hv1⟩
       · simp only [N.val, Option.some.injEq] at hv1; rw [← hv1] at one ⊢; subst hb; exact one _ (h.setV (opd_rel h y) hd) (fun w' => by simp [execOp, ho, e, asBool])
       · simp only [N.val, Option.some.injEq] at hv1; rw [← hv1] at one ⊢; subst hb; exact one _ (h.setV (opd_rel h z) hd) (fun w' => by simp [execOp, ho, e, asBool])
     | _ => simp [hq, N.val] at hv
 | build t parts =>
   simp only [ho] at hv
   cases hr : T.row t with
   | none => simp [hr, N.val] at hv
   | some r => cases hg : T.agg t with
     | false => simp [hr, hg, N.val] at hv
     | true =>
       simp only [hr, hg] at hv
       cases hfc : fillCells T t (plainCells r) (parts.toList.map fun p => (p.1, opd st p.2)) with
       | none => simp [hfc, N.val] at hv
       | some cs =>
         simp only [hfc, N.val, Option.some.injEq] at hv; subst hv; obtain ⟨v, h1, h2⟩ := build_ok hT h hr hg (partsRel h parts) hfc hd; exact one v (h2) (fun w' => by simp only [execOp, ho]; exact run_v (h1 w'))
 | nilCheck x =>
   simp only [ho] at hv; have hx := opd_rel h x
   cases hq : opd st x with
   | agg _ => simp [hq, N.val] at hv
   | tup _ => simp [hq, N.val] at hv
   | one cx => cases cx with
     | ptr b g off =>
       rw [hq] at hx; simp only [hq] at hv
       cases hbx : box? st b g with
       | none => simp [hbx, N.val] at hv
       | some cs =>
         simp only [hbx, N.val, Option.some.injEq] at hv; subst hv; have e := hx.2.2 cs hbx; exact one _ (h.setV (v := .one (.ptr b g off)) hx hd) (fun w' => by simp [execOp, ho, e])
     | ept a' j g i off =>
       rw [hq] at hx; simp only [hq] at hv
       cases hA : arr? st a' j g with
       | none => simp [hA, N.val] at hv
       | some A =>
         simp only [hA, N.val, Option.some.injEq] at hv; subst hv; obtain ⟨_, b, o', cap, _, e⟩ := hx.2.2 A hA; exact one _ (h.setV (v := .one (.ept a' j g i off)) hx hd) (fun w' => by simp [execOp, ho, e])
     | _ => simp [hq, N.val] at hv
 | binOp op t x y t2 =>
   simp only [ho] at hv; obtain ⟨v, h1, h2⟩ := binN_ok hT h (fun t ht l m us vs b op ox oy => hE t ht c st w l m us vs b op ox oy) (ox := x) (oy := y) (opd_rel h x) (opd_rel h y) hv hd; exact one v (h2) (fun w' => by simp only [execOp, ho]; exact run_v (h1 w'))
 | unOp op t x =>
   cases op with
   | not =>
     simp only [ho] at hv; have hx := opd_rel h x
     cases hq : opd st x with
     | agg _ => simp [hq, N.val] at hv
     | tup _ => simp [hq, N.val] at hv
     | one cx => cases cx with
       | bool b =>
         rw [hq] at hx; have e : a.eval x = .bool b := hx; simp only [hq, N.val, Option.some.injEq] at hv; subst hv; exact one (.bool (!b)) (h.setV (v := .one (.bool (!b))) rfl hd) (fun w' => by simp [execOp, ho, e, Op.unary])
       | _ => simp [hq, N.val] at hv
   | _ => simp [ho, N.val] at hv
 | convert t1 t2 x =>
   simp only [ho] at hv; have hx := opd_rel h x
   split at hv
   · rename_i k1 k2 k n h1 h2 hq; rw [hq] at hx; have e : a.eval x = .int k n := hx; simp only [N.val, Option.some.injEq] at hv; subst hv; obtain ⟨d1, g1, _⟩ := hT.kind _ _ h1; obtain ⟨d2, g2, e2⟩ := hT.kind _ _ h2; simp only [descOf] at e2; subst e2; refine one (.int k2 (k2.wrap n)) (h.setV (v := .one (.int k2 (k2.wrap n))) rfl hd) (fun w' => ?_); simp only [execOp, ho]; refine run_v ?_; simp [convert, run_underlying g1, run_underlying g2, e, Conv.intToInt]
   · rename_i b h1 h2 hq; rw [hq] at hx; have e : a.eval x = .string b := hx; simp only [N.val, Option.some.injEq] at hv; subst hv; obtain ⟨d1, g1, e1⟩ := hT.kind _ _ h1; obtain ⟨d2, g2, e2⟩ := hT.kind _ _ h2; simp only [descOf] at e2 e1; subst e2 e1; refine one (.string b) (h.setV (v := .one (.str b)) rfl hd) (fun w' => ?_); simp only [execOp, ho]; refine run_v ?_; simp [convert, run_underlying g1, run_underlying g2, e]
   · rename_i cx _ _ hq; rw [ho] at hk; simp only [hq] at hk
     split at hv
     · cases cx <;> first | (simp [withRows, N.val] at hv; done) | (simp at hk; done)
     · simp [N.val] at hv
   · simp [N.val] at hv
 | slice t x lo hi mx =>
   cases mx with
   | some _ => simp [ho, N.val] at hv
   | none =>
     simp only [ho] at hv; obtain ⟨v, h1, h2⟩ := sliceN_ok hT h (opd_rel h x) (bdRel h lo) (bdRel h hi) hv hd; exact one v (h2) (fun w' => by simp only [execOp, ho]; exact run_v (h1 w'))
 | fieldAddr t x f =>
   simp only [ho] at hv; have hx := opd_rel h x; have place : ∀ (b q k : Nat), T.off t f = some k → a.eval x = .pointer (some ⟨b, q, none⟩) → ∀ w' : World, (execOp a.eval o).run P w' = .ok (.value (.pointer (some ⟨b, q + k, none⟩))) w' := by
     intro b q k hk e w'; obtain ⟨fs, fld, n, g1, g2, g3, g4⟩ := hT.off t f k hk
     cases hi : P.info? fld.type with
     | none => simp [hi] at g4
     | some i =>
       simp only [hi, Option.map_some, Option.some.injEq] at g4; simp only [execOp, ho]; refine run_v ?_; subst g3; simp [Instr.fieldAt, run_underlying g1, g2, e, Instr.sureAddr, fieldPlace, sizeOf, typeInfo, hi, g4, Addr.add]
   split at hv
   · rename_i b g off k hq hk; rw [hq] at hx
     cases hbx : box? st b g with
     | none => simp [hbx, N.val] at hv
     | some cs =>
       simp only [hbx, N.val, Option.some.injEq] at hv; subst hv; have e := hx.2.2 cs hbx; refine one (.pointer (some ⟨c.bx b, off + k, none⟩)) (h.setV (v := .one (.ptr b g (off + k))) ⟨rfl, hx.2.1, fun cs' hcs' => rfl⟩ hd) (place _ _ k hk e)
   · rename_i a' j g i off k hq hk; rw [hq] at hx
     cases hA : arr? st a' j g with
     | none => simp [hA, N.val] at hv
     | some A =>
       simp only [hA, N.val, Option.some.injEq] at hv; subst hv; obtain ⟨hi, b, o', cap, hl, e⟩ := hx.2.2 A hA; refine one (.pointer (some ⟨b, o' + i * A.r.width + off + k, none⟩)) (h.setV (v := .one (.ept a' j g i (off + k))) ⟨rfl, hx.2.1, fun A' hA' => ?_⟩ hd) (place _ _ k hk e); rw [hA] at hA'
       cases hA'
       exact ⟨hi, b, o', cap, hl, by rw [Nat.add_assoc]⟩
   · rename_i r y off k hq hk; rw [hq] at hx; simp only [N.val, Option.some.injEq] at hv; subst hv; obtain ⟨b, o', e, h1, h2, h3⟩ := hx; exact one (.pointer (some ⟨b, o' + off + k, none⟩)) (h.setV (v := .one (.rpt r y (off + k))) ⟨b, o', by rw [Nat.add_assoc], h1, h2, h3⟩ hd) (place _ _ k hk e)
   · rename_i r ys off k hq hk; rw [hq] at hx; simp only [N.val, Option.some.injEq] at hv; subst hv; obtain ⟨b, o', e, h1, h2, h3⟩ := hx; exact one (.pointer (some ⟨b, o' + off + k, none⟩)) (h.setV (v := .one (.rptl r ys (off + k))) ⟨b, o', by rw [Nat.add_assoc], h1, h2, h3⟩ hd) (place _ _ k hk e)
   · simp [N.val] at hv
 | indexAddr t x i =>
   simp only [ho] at hv; obtain ⟨v, h1, h2⟩ := indexN_ok hT h (opd_rel h x) (opd_rel h i) hv hd; exact one v (h2) (fun w' => by simp only [execOp, ho]; exact run_v (h1 w'))
 | index t x i =>
   simp only [ho] at hv; have hx := opd_rel h x; have hi := opd_rel h i
   split at hv
   · rename_i s k n h1 hq1 hq2; rw [hq1] at hx; rw [hq2] at hi; have e1 : a.eval x = .string s := hx; have e2 : a.eval i = .int k n := hi; obtain ⟨hn0, hv⟩ := brN_fail hv; obtain ⟨hn1, hv⟩ := brN_fail hv; have hn0 := of_decide_eq_true hn0; have hn1 := of_decide_eq_true hn1; simp only [N.val, Option.some.injEq] at hv; subst hv; obtain ⟨d1, g1, e3⟩ := hT.kind _ _ h1; simp only [descOf] at e3; subst e3; have hlt : n.toNat < s.size := by omega
     have hb : s[n.toNat]? = some s[n.toNat] := getElem?_pos s n.toNat hlt; refine one (.int .u8 (byteAt s n)) (h.setV (v := .one (.int .u8 (byteAt s n))) rfl hd) (fun w' => ?_); simp only [execOp, ho]; refine run_v ?_; simp [Instr.index, e1, e2, asIntOf, run_underlying g1, hn0, hb, byteAt]
   · simp [N.val] at hv
 | field t x f =>
   simp only [ho] at hv; have hx := opd_rel h x
   cases hq : opd st x with
   | one _ => simp [hq, N.val] at hv
   | tup _ => simp [hq, N.val] at hv
   | agg cs =>
     rw [hq] at hx; simp only [hq] at hv
     cases hk' : T.off t f with
     | none => simp [hk', N.val] at hv
     | some k =>
       simp only [hk'] at hv; obtain ⟨h1, hv⟩ := bifN_some hv
       cases hn : nth cs k with
       | none => simp [hn, N.val] at hv
       | some u =>
         simp only [hn, N.val, Option.some.injEq] at hv; subst hv; obtain ⟨vs, e, hl, he⟩ := hx; rw [nth_eq] at hn; have hlt : k < vs.size := by rw [← Array.length_toList, ← hl]; exact (List.getElem?_eq_some_iff.1 hn).1
         have hg : vs[k]? = some vs[k] := Array.getElem?_eq_getElem hlt; obtain ⟨fs, fld, d1, g1, g2, g3, g4⟩ := hT.one t f h1; obtain ⟨fs', fld', _, g1', g2', g5, _⟩ := hT.off t f k hk'; rw [g1] at g1'; injection g1' with g1'; injection g1' with g1'; subst g1'; rw [g2] at g2'; injection g2' with g2'; subst g2'; refine one vs[k] (h.setV (v := .one u) (he k u _ hn (by rw [Array.getElem?_toList]; exact hg)) hd) (fun w' => ?_); simp only [execOp, ho]; refine run_v ?_; have hagg : (isAgg fld.type).run P w' = .ok false w' := by
           unfold isAgg; rw [Sem.run_bind, run_underlying g3 w']
           cases d1 <;> simp_all [TypeDesc.isRow]
         simp [Instr.field, e, run_underlying g1, g2, part, asAgg, hagg, g5, hg]
 | extract t i =>
   simp only [ho] at hv; have hx := opd_rel h t
   cases hq : opd st t with
   | one _ => simp [hq, N.val] at hv
   | agg _ => simp [hq, N.val] at hv
   | tup vs =>
     rw [hq] at hx; simp only [hq] at hv
     cases hn : nth vs i with
     | none => simp [hn, N.val] at hv
     | some u =>
       simp only [hn, N.val, Option.some.injEq] at hv; subst hv; obtain ⟨us, e, hl, he⟩ := hx; rw [nth_eq] at hn; have hlt : i < us.size := by rw [← hl]; exact (List.getElem?_eq_some_iff.1 hn).1
       have hg : us[i]? = some us[i] := Array.getElem?_eq_getElem hlt; refine one us[i] (h.setV (relV_of1 (he i u _ hn hg)) hd) (fun w' => ?_); simp only [execOp, ho]; refine run_v ?_; simp [Instr.extract, e, hg]
 | call cl =>
   obtain ⟨callee, args, tys⟩ := cl
   cases callee with
   | invoke r n => simp [ho, N.val] at hv
   | value x =>
     cases x with
     | func f => simp [ho] at hk
     | tmp f => simp [ho] at hk
     | _ => simp [ho, N.val] at hv
   | builtin b =>
     have hx := fun x => opd_rel h x
     simp only [ho] at hv; have args2 : ∀ x y, args.toList = [x, y] → args = #[x, y] := fun x y e => by rw [← Array.toArray_toList (xs := args), e]
     split at hv
     · rename_i x t ha ht; have ha : args = #[x] := by rw [← Array.toArray_toList (xs := args), ha]
       have ht : tys = #[t] := by rw [← Array.toArray_toList (xs := tys), ht]
       subst ha ht; obtain ⟨v, h1, h2⟩ := lenN_ok (ty := o.type) hT h (opd_rel h x) hv hd; exact one v (h2) (fun w' => by simp only [execOp, ho]; simp [resolve, invoke, builtin, Sem.run_bind, h1 w'])
     · rename_i x y t u ha ht; simp [ho] at hk
     · rename_i ts x y ha; have ha := args2 x y ha; subst ha
       split at hv
       · rename_i k p l q hq1 hq2; have e1 := opd_rel h x; have e2 := opd_rel h y; rw [hq1] at e1; rw [hq2] at e2; have e1 : a.eval x = .int k p := e1; have e2 : a.eval y = .int l q := e2; simp only [N.val, Option.some.injEq] at hv; subst hv; exact one _ (h.setV (v := .one (.int k (if q < p then q else p))) (u := .int k (if q < p then q else p)) rfl hd) (fun w' => by simp only [execOp, ho]; simp [resolve, invoke, builtin, Sem.run_bind, Builtin.min_, Builtin.min2, e1, e2])
       · simp [N.val] at hv
     · rename_i ts x y ha; have ha := args2 x y ha; subst ha
       split at hv
       · rename_i k p l q hq1 hq2; have e1 := opd_rel h x; have e2 := opd_rel h y; rw [hq1] at e1; rw [hq2] at e2; have e1 : a.eval x = .int k p := e1; have e2 : a.eval y = .int l q := e2; simp only [N.val, Option.some.injEq] at hv; subst hv; exact one _ (h.setV (v := .one (.int k (if q > p then q else p))) (u := .int k (if q > p then q else p)) rfl hd) (fun w' => by simp only [execOp, ho]; simp [resolve, invoke, builtin, Sem.run_bind, Builtin.max_, Builtin.max2, e1, e2])
       · simp [N.val] at hv
     · rename_i ts x y z ha; have ha : args = #[x, y, z] := by rw [← Array.toArray_toList (xs := args), ha]
       subst ha
       split at hv
       · rename_i k p l q m s hq1 hq2 hq3; have e1 := opd_rel h x; have e2 := opd_rel h y; have e3 := opd_rel h z; rw [hq1] at e1; rw [hq2] at e2; rw [hq3] at e3; have e1 : a.eval x = .int k p := e1; have e2 : a.eval y = .int l q := e2; have e3 : a.eval z = .int m s := e3; simp only [N.val, Option.some.injEq] at hv; subst hv; exact one _ (h.setV (v := .one (.int k (if s < (if q < p then q else p) then s else (if q < p then q else p)))) (u := .int k (if s < (if q < p then q else p) then s else (if q < p then q else p))) rfl hd) (fun w' => by simp only [execOp, ho]; simp [resolve, invoke, builtin, Sem.run_bind, Builtin.min_, Builtin.min2, e1, e2, e3])
       · simp [N.val] at hv
     · simp [N.val] at hv
 | _ => simp [ho] at hk
theorem opN_ok {P : Program} {T : Tab} (hT : TabOk P T) (hE : EqOk P T) {S : Sems} {w0 : World} {mu : Mu} {c : Cz} {st : St} {a : Act} {w : World} (h : Rel w0 mu c st a w) {o : Oper} (hf : Op.isFn o.op = false) (hsp : spApp st o = false)
   {st' : St} (hv : (opN T S st o).val = some st') (hd : ∀ k, o.dst = some k → k < a.tmps.size) : StepK P w0 mu st' o a w (kindOk S st o .one) := by
 by_cases hp : kindOk S st o .any = true
 · obtain ⟨v, h1, h2⟩ := pure_ok hT hE h hp hv hd; exact step_value (h1 w) h2 (fun _ => Keep.refl w)
 have one : ∀ (v : Value) (w' : World), (∃ c', Rel w0 mu c' st' (a.put o.dst v) w') → Keep w w' → (execOp a.eval o).run P w = .ok (.value v) w' → StepK P w0 mu st' o a w (kindOk S st o .one) :=
   fun v w' ⟨c', h'⟩ hk hr => step_value hr h' (fun _ => hk)
 unfold kindOk at hp; unfold opN at hv
 cases ho : o.op with
 | alloc t =>
   simp only [ho] at hv
   cases hr : T.row t with
   | none => simp [hr, N.val] at hv
   | some r =>
     simp only [hr] at hv; obtain ⟨k, s0, hk, hs0, rfl⟩ := newBox_some hv; obtain ⟨i, z, hi, hz, hzl⟩ := hT.row t r hr; refine one _ _ ⟨_, hk ▸ h.newBox (ty := t) hs0 (hd k hk) (plainCells_rel hzl)⟩ (Keep.alloc _ _) ?_; simp [execOp, ho, Instr.alloc, zeroValue, typeInfo, hi, hz, newVar, newRow]
 | box t x =>
   simp only [ho] at hv
   cases hn : T.cells t with
   | none => simp [hn, N.val] at hv
   | some n =>
     simp only [hn] at hv; obtain ⟨hc, hv⟩ := bifN_some hv; rw [Bool.and_eq_true] at hc; obtain ⟨hcl, _⟩ := (opd_rel h x).cells hc.1
     cases hp' : (bif T.cap t then plainRow (opd st x).cells else none) with
     | none =>
       rw [hp'] at hv; obtain ⟨k, s0, hk, hs0, rfl⟩ := newBox_some hv; refine one _ _ ⟨_, hk ▸ h.newBox (ty := t) hs0 (hd k hk) hcl⟩ (Keep.alloc _ _) ?_; simp [execOp, ho, Instr.box, newVar, newRow]
     | some p =>
       obtain ⟨r, y⟩ := p; rw [hp'] at hv; simp only [N.val, Option.some.injEq] at hv; subst hv; have hp2 : plainRow (opd st x).cells = some ⟨r, y⟩ := by
         cases hcp : T.cap t with
         | true => rw [hcp] at hp'; exact hp'
         | false => rw [hcp] at hp'; cases hp'
       have hfree : c.ok w.heap.size := by
         unfold Cz.ok
         cases hq : c.own w.heap.size with
         | none => rfl
         | some l => exact absurd (h.owned _ l hq).1 (Nat.lt_irrefl _)
       have hnew : RelV c st (w.alloc (.cells (a.eval x).cells t (0, 0))) (.one (.rpt r y 0)) (.pointer (some ⟨w.heap.size, 0, none⟩)) :=
         ⟨w.heap.size, 0, rfl, by simp, hfree, plainRow_ok (Fw.grow h _).stays _ hp2 _ 0 hcl fun i v hv => by
           rw [Nat.zero_add]; exact cell_box (heap_alloc_new w _) hv⟩
       refine one (.pointer (some ⟨w.heap.size, 0, none⟩)) (w.alloc (.cells (a.eval x).cells t (0, 0))) ⟨c, (h.grow _).setV hnew hd⟩ (Keep.alloc _ _) ?_; simp [execOp, ho, Instr.box, newVar, newRow]
 | makeFunc fn first caps =>
   cases fn with
   | func g =>
     simp only [ho] at hv; obtain ⟨hfst, hv⟩ := bifN_some hv
     cases hc : capsN st caps.toList with
     | none => simp [hc, N.val] at hv
     | some p =>
       obtain ⟨st1, rs, x⟩ := p; rw [hc] at hv; simp only [N.val, Option.some.injEq] at hv; subst hv; obtain ⟨c1, h1, h2, h3⟩ := capsN_ok _ h hc; have hf0 : first = #[] := by simpa using hfst
       subst hf0; have hnew : RelV c1 st1 w (.one (.fn g rs [x])) (.func (.func g) #[] (caps.map a.eval)) :=
         ⟨_, rfl, fun y hy => by
           simp at hy; subst hy; rw [Array.toList_map]; exact h3⟩
       exact one _ w ⟨c1, h1.setV hnew hd⟩ (Keep.refl w) (by simp [execOp, ho, Instr.makeFunc])
   | _ => simp [ho, N.val] at hv
 | buildSlice t len parts =>
   simp only [ho] at hv; obtain ⟨v, w', h1, hkp, c', h2⟩ := buildSliceN_ok hT h (partsRel h parts) hv hd; exact one v w' ⟨c', h2⟩ hkp (by simp only [execOp, ho]; exact run_v h1)
 | makeSlice t l cp =>
   simp only [ho] at hv; obtain ⟨v, w', h1, hkp, c', h2⟩ := makeN_ok hT h (opd_rel h l) (opd_rel h cp) hv hd; exact one v w' ⟨c', h2⟩ hkp (by simp only [execOp, ho]; exact run_v h1)
 | load t x =>
   simp only [ho] at hv; obtain ⟨v, h1, h2⟩ := loadN_ok hT h (opd_rel h x) hv hd; exact one v w ⟨c, h2⟩ (Keep.refl w) (by simp only [execOp, ho]; exact run_v (h1 w (Keep.refl w)))
 | store t x y =>
   simp only [ho] at hv
   cases hdst : o.dst with
   | some _ => simp [hdst, N.val] at hv
   | none =>
     simp only [hdst] at hv; obtain ⟨w', h1, c', h2⟩ := storeN_ok hT h (opd_rel h x) (opd_rel h y) hv; intro Q; have hr : (execOp a.eval o).run P w = .ok .skip w' := by simp [execOp, ho, Sem.run_bind, h1]
     unfold Oper.wp; rw [hr]; refine ⟨⟨c', ?_, put_size a _ _⟩, fun hk => ?_⟩
     · rw [hdst]; exact h2
     · simp [kindOk, ho] at hk
 | call cl =>
   obtain ⟨callee, args, tys⟩ := cl
   cases callee with
   | invoke r n => simp [ho, N.val] at hv
   | value x =>
     cases x with
     | func f => simp [ho, Op.isFn] at hf
     | tmp f => simp [ho, Op.isFn] at hf
     | _ => simp [ho, N.val] at hv
   | builtin b =>
     simp only [ho] at hv; have args2 : ∀ x y, args.toList = [x, y] → args = #[x, y] := fun x y e => by rw [← Array.toArray_toList (xs := args), e]
     split at hv
     · simp [ho] at hp
     · rename_i x y t u ha ht; obtain ⟨htu, hv1⟩ := bifN_some hv; have htu := Nat.eq_of_beq_eq_true htu; subst htu; have ha := args2 x y ha; have ht : tys = #[t, t] := by rw [← Array.toArray_toList (xs := tys), ht]
       subst ha ht; have hno : splitOf st [(.io, opd st x)] = none := by
         unfold spApp at hsp; simp only [ho] at hsp
         cases hq : splitOf st [(.io, opd st x)] with
         | none => rfl
         | some _ => rw [hq] at hsp; cases hsp
       unfold appendT at hv1; rw [hno] at hv1; obtain ⟨v, w', h1, c', h2⟩ := appendN_ok (ty := o.type) hT h (opd_rel h x) (opd_rel h y) hv1 hd; exact step_value (c' := c') (by simp only [execOp, ho]; simp [resolve, invoke, builtin, Sem.run_bind, h1]) h2 (fun hk => by simp [kindOk, ho] at hk)
     · simp [ho] at hp
     · simp [ho] at hp
     · simp [ho] at hp
     · simp [N.val] at hv
 | move _ => simp [ho] at hp
 | assign _ => simp [ho] at hp
 | pick _ _ _ => simp [ho] at hp
 | build _ _ => simp [ho] at hp
 | nilCheck _ => simp [ho] at hp
 | binOp _ _ _ _ _ => simp [ho] at hp
 | unOp _ _ _ => simp [ho] at hp
 | convert t1 t2 x =>
   simp only [ho] at hv hp; have hx := opd_rel h x
   split at hv
   · rename_i hq; simp [hq] at hp
   · rename_i hq; simp [hq] at hp
   · rename_i cx h1 h2 hq
     split at hv
     · rename_i b he; rw [hq] at hx; obtain ⟨ys, h3, h4⟩ := withRows_ok h hx hv; simp only [N.val, Option.some.injEq] at h3; subst h3; obtain ⟨e, i, z, g1, g2, g3, g4, g5, _⟩ := hT.elem _ _ _ he; obtain ⟨d2, q2, e2⟩ := hT.kind _ _ h2; simp only [descOf] at e2; subst e2; have hu8 : P.underlying e = some (.int .u8) := hT.u8 t1 e b he g1; have hr := run_bytes (P := P) h4; refine one (.string (bytesOf ys)) w ⟨c, h.setV (v := .one (.str (bytesOf ys))) rfl hd⟩ (Keep.refl w) ?_; simp only [execOp, ho]; refine run_v ?_; rcases h4 with ⟨hn, _⟩ | ⟨a0, cap, hn, _⟩
       · rw [hn] at hr ⊢; rw [run_convert_bytes_string w t1 t2 e none 0 0 g1 hu8 q2]; exact hr
       · rw [hn] at hr ⊢; rw [run_convert_bytes_string w t1 t2 e (some a0) _ cap g1 hu8 q2]; exact hr
     · simp [N.val] at hv
   · simp [N.val] at hv
 | slice _ _ _ _ _ => simp [ho] at hp
 | fieldAddr _ _ _ => simp [ho] at hp
 | indexAddr _ _ _ => simp [ho] at hp
 | index _ _ _ => simp [ho] at hp
 | extract _ _ => simp [ho] at hp
 | field _ _ _ => simp [ho] at hp
 | _ => simp [ho, N.val] at hv
end Go.TM
namespace Go.TM
open Go Go.RowKit
def OpSound (P : Program) (T : Tab) (S : Sems) (w0 : World) (mu : Mu) (n : Nat) : Prop :=
 ∀ {c : Cz} {st st' : St} {a : Act} {w : World} {o : Oper}, Rel w0 mu c st a w → a.tmps.size = n → (∀ k, o.dst = some k → k < n) → (opN T S st o).val = some st' → StepK P w0 mu st' o a w (kindOk S st o .one)
theorem put_same (a : Act) (d : Nat) (v : Value) (hd : d < a.tmps.size) (h : a.eval (.tmp d) = v) : a.put (some d) v = a := by
 obtain ⟨tm, df⟩ := a; simp only [Act.put, Act.mk.injEq, and_true]; simp only [Act.eval, Array.getD_eq_getD_getElem?, Array.getElem?_eq_getElem hd, Option.getD_some] at h; apply Array.ext
 · simp
 · intro i h1 h2; rw [Array.getElem_setIfInBounds h2]
   split
   · rename_i e; subst e; exact h.symm
   · rfl
theorem bool_slot {w0 : World} {mu : Mu} {c : Cz} {st : St} {a : Act} {w : World} (h : Rel w0 mu c st a w) {d : Nat} {b : Bool} (hg : getV st d = .one (.bool b)) :
   d < a.tmps.size ∧ a.eval (.tmp d) = .bool b := by
 have h1 := h.regs d; rw [hg] at h1; have h1 : a.eval (.tmp d) = .bool b := h1; refine ⟨?_, h1⟩; rcases Nat.lt_or_ge d a.tmps.size with h2 | h2
 · exact h2
 · simp [Act.eval, Array.getD_eq_getD_getElem?, Array.getElem?_eq_none h2, undef] at h1
theorem Rel.know {w0 : World} {mu : Mu} {c : Cz} {st : St} {a : Act} {w : World} (h : Rel w0 mu c st a w) {d : Nat} {b : Bool} (hg : getV st d = .one (.bool b)) :
   Rel w0 mu c (TM.setV st (some d) (.one (.bool b))) a w := by
 obtain ⟨h1, h2⟩ := bool_slot h hg; have := h.setV (d := some d) (v := .one (.bool b)) (u := .bool b) rfl (fun t e => by cases e; exact h1)
 rwa [put_same a d _ h1 h2] at this
theorem yielded_of {ops : Array Oper} {a : Act} {j d : Nat} {b : Bool} (hj : (nth ops.toList j).bind (·.dst) = some d) (hd : d < a.tmps.size) (h : a.eval (.tmp d) = .bool b) : yielded ops a.tmps j = some b := by
 rw [nth_eq, Array.getElem?_toList] at hj; unfold yielded; rw [hj]; simp only [Act.eval, Array.getD_eq_getD_getElem?, Array.getElem?_eq_getElem hd, Option.getD_some] at h; simp [Array.getElem?_eq_getElem hd, h]
theorem setV_self : (st : St) → (d : Nat) → {v : V} → getV st d = v → TM.setV st (some d) v = st
 | [], _, _, _ => rfl
 | s :: l, 0, v, h => by
   have h : s.v = v := h; subst h; rfl
 | s :: l, d + 1, v, h => congrArg (s :: ·) (setV_self l d h)
theorem kindOk_know {S : Sems} {st : St} {o : Oper} {d : Nat} {b : Bool} {k : Kd} (h : getV st d = .one (.bool b)) : kindOk S (TM.setV st (some d) (.one (.bool b))) o k = kindOk S st o k := by
 rw [setV_self st d h]
theorem rel_undef (c : Cz) (st : St) (w : World) : RelV c st w (.tup []) undef := ⟨#[], rfl, rfl, fun i x y hx => by simp at hx⟩
theorem yielded_undef {ops : Array Oper} {a : Act} {j d : Nat} (hj : (nth ops.toList j).bind (·.dst) = some d) (h : a.eval (.tmp d) = undef) : yielded ops a.tmps j = none := by
 rw [nth_eq, Array.getElem?_toList] at hj; unfold yielded; rw [hj]; simp only [Act.eval, Array.getD_eq_getD_getElem?] at h
 cases ht : a.tmps[d]? with
 | none => simp [ht]
 | some v =>
   rw [ht] at h; simp only [Option.getD_some] at h; subst h; simp [ht, undef]
theorem slot_undef {w0 : World} {mu : Mu} {c : Cz} {st : St} {a : Act} {w : World} (h : Rel w0 mu c st a w) {d : Nat} (hg : getV st d = .tup []) : a.eval (.tmp d) = undef := by
 have h1 := h.regs d; rw [hg] at h1; obtain ⟨vs, e, hl, _⟩ := h1; have : vs = #[] := Array.eq_empty_of_size_eq_zero hl.symm; rw [e, this]; rfl
theorem guard_ok {P : Program} {T : Tab} {S : Sems} {w0 : World} {mu : Mu} {n : Nat} (hop : OpSound P T S w0 mu n) {c : Cz} {st st' : St} {a : Act} {w : World} {ops : Array Oper} {o : Oper} (h : Rel w0 mu c st a w) (hn : a.tmps.size = n)
   (hd : ∀ k, o.dst = some k → k < n) (hv : (guardN T S ops.toList st o).val = some st') :
   (Region.wanted o (yielded ops a.tmps) = true ∧ StepK P w0 mu st' o a w (kindOk S st o .one)) ∨ (Region.wanted o (yielded ops a.tmps) = false ∧ Rel w0 mu c st' (a.put o.dst undef) w) := by
 unfold guardN at hv; unfold Region.wanted
 cases hg : o.guard with
 | none =>
   simp only [hg] at hv ⊢; exact .inl ⟨trivial, hop h hn hd hv⟩
 | some p =>
   obtain ⟨j, want⟩ := p; simp only [hg] at hv ⊢
   cases hj : (nth ops.toList j).bind (·.dst) with
   | none => simp [hj, N.val] at hv
   | some d =>
     simp only [hj] at hv
     split at hv
     · rename_i b hgv; obtain ⟨h1, h2⟩ := bool_slot h hgv; have hy := yielded_of (ops := ops) hj h1 h2; rw [hy]; have hk := h.know hgv; have yes : (opN T S (TM.setV st (some d) (.one (.bool b))) o).val = some st' → StepK P w0 mu st' o a w (kindOk S st o .one) := fun e => (kindOk_know hgv) ▸ hop hk hn hd e
       have no : (N.done (TM.setV (TM.setV st (some d) (.one (.bool b))) o.dst (.tup []))).val = some st' → Rel w0 mu c st' (a.put o.dst undef) w := by
         intro e; simp only [N.val, Option.some.injEq] at e; subst e; exact hk.setV (rel_undef _ _ _) (fun k hk' => by rw [hn]; exact hd k hk')
       rcases brN_some hv with ⟨hb, hv1⟩ | ⟨hb, hv1⟩
       · subst hb
         cases want
         · exact .inr ⟨rfl, no hv1⟩
         · exact .inl ⟨rfl, yes hv1⟩
       · subst hb
         cases want
         · exact .inl ⟨rfl, yes hv1⟩
         · exact .inr ⟨rfl, no hv1⟩
     · rename_i hgv; simp only [N.val, Option.some.injEq] at hv; subst hv; rw [yielded_undef (ops := ops) hj (slot_undef h hgv)]; exact .inr ⟨by cases want <;> rfl, h.setV (rel_undef _ _ _) (fun k hk' => by rw [hn]; exact hd k hk')⟩
     · simp [N.val] at hv
def dstsOk (n : Nat) (ops : List Oper) : Bool := ops.all fun o => match o.dst with | some k => Nat.blt k n | none => true
theorem dstsOk_of {n : Nat} {ops : List Oper} (h : dstsOk n ops = true) {o : Oper} (ho : o ∈ ops) : ∀ k, o.dst = some k → k < n := by
 intro k hk; have := List.all_eq_true.1 h o ho; rw [hk] at this; exact Nat.le_of_ble_eq_true this
def Next {R : Type} (w0 : World) (mu : Mu) (n : Nat) (r : R) (k : St → Option R) (K : Act → World → Prop) : Prop :=
 ∀ {c : Cz} {st : St} {a : Act} {w : World}, Rel w0 mu c st a w → a.tmps.size = n → k st = some r → K a w
theorem opsK_ok {R : Type} {P : Program} {T : Tab} {S : Sems} {w0 : World} {mu : Mu} {n : Nat} (hop : OpSound P T S w0 mu n) {ops : Array Oper} {Q : Exit → Act → World → Prop} {k : St → Option R} {r : R} (hk : Next w0 mu n r k (Q .normal)) :
   (l : List Oper) → dstsOk n l = true → {c : Cz} → {st : St} → {a : Act} → {w : World} → Rel w0 mu c st a w → a.tmps.size = n → opsK T S ops.toList l st k = some r → wpList P ops Q l a w
 | [], _, _, _, _, _, h, hn, hv => hk h hn hv
 | o :: l, hl, c, st, a, w, h, hn, hv => by
   unfold opsK at hv; rw [N.fold_eq] at hv; obtain ⟨st', h1, h2⟩ := Option.bind_eq_some_iff.1 hv; have hd := dstsOk_of hl (o := o) List.mem_cons_self; have hl' : dstsOk n l = true := by
     unfold dstsOk at hl ⊢; rw [List.all_cons, Bool.and_eq_true] at hl; exact hl.2
   refine wpList_step fun K hK => ?_
   rcases guard_ok hop h hn hd h1 with ⟨hw, hs⟩ | ⟨hw, hs⟩
   · rw [if_pos hw]; refine Oper.wp_mono (fun a' w' ⟨⟨c', hr, hsz⟩, _⟩ => hK a' w' ?_) (hs Q); exact opsK_ok hop hk l hl' hr (hsz.trans hn) h2
   · rw [if_neg (by rw [hw]; decide)]; exact hK _ _ (opsK_ok hop hk l hl' hs ((put_size _ _ _).trans hn) h2)
def Ex.go : Ex → Exit
 | .normal => .normal
 | .exit n => .exit n
 | .ret => .ret
def NextC {R : Type} (w0 : World) (mu : Mu) (n : Nat) (r : R) (k : Ex → St → Option R) (Q : Exit → Act → World → Prop) : Prop :=
 ∀ {e : Ex} {c : Cz} {st : St} {a : Act} {w : World}, Rel w0 mu c st a w → a.tmps.size = n → k e st = some r → Q e.go a w
def codeDst (n : Nat) : Code → Bool
 | .region _ ops _ => dstsOk n ops.toList
 | .seq a b => codeDst n a && codeDst n b
 | .cond _ a b => codeDst n a && codeDst n b
 | .block _ a => codeDst n a
 | .loop a => codeDst n a
 | _ => true
def LoopAt {R : Type} (P : Program) (w0 : World) (mu : Mu) (n : Nat) (L : Loops R) (r : R) (id : Nat) (b : Code) : Prop :=
 ∀ {k : Ex → St → Option R} {Q : Exit → Act → World → Prop}, NextC w0 mu n r k Q → ∀ {c : Cz} {st : St} {a : Act} {w : World}, Rel w0 mu c st a w → a.tmps.size = n →
   L id b st k = some r → (Code.block id (.loop b)).wp P Q a w
def codeLoops (ok : Nat → Code → Prop) : Code → Prop
 | .seq a b => codeLoops ok a ∧ codeLoops ok b
 | .cond _ a b => codeLoops ok a ∧ codeLoops ok b
 | .block id (.loop b) => ok id b
 | .block _ a => codeLoops ok a
 | _ => True
def DrawSound (R : Type) (P : Program) (T : Tab) (S : Sems) (D : Draws) (w0 : World) (mu : Mu) (n : Nat) (ok : Nat → Array Oper → Prop) : Prop :=
 ∀ {id : Nat} {ops : Array Oper} {Q : Exit → Act → World → Prop} {k : St → Option R} {r : R}, ok id ops → dstsOk n ops.toList = true → Next w0 mu n r k (Q .normal) → ∀ {c : Cz} {st : St} {a : Act} {w : World}, Rel w0 mu c st a w → a.tmps.size = n →
   drawnK T S ops.toList (D id) st k = some r → (Code.region id ops true).wp P Q a w
def codeDraw (ok : Nat → Array Oper → Prop) : Code → Prop
 | .region id ops true => ok id ops
 | .seq a b => codeDraw ok a ∧ codeDraw ok b
 | .cond _ a b => codeDraw ok a ∧ codeDraw ok b
 | .block _ (.loop _) => True
 | .block _ a => codeDraw ok a
 | _ => True
theorem codeK_ok {R : Type} {P : Program} {T : Tab} {S : Sems} {D : Draws} {L : Loops R} {w0 : World} {mu : Mu} {n : Nat} {r : R} {ok : Nat → Array Oper → Prop} (hop : OpSound P T S w0 mu n) (hD : DrawSound R P T S D w0 mu n ok) :
   (cd : Code) → codeDst n cd = true → codeLoops (LoopAt P w0 mu n L r) cd → codeDraw ok cd → {k : Ex → St → Option R} → {Q : Exit → Act → World → Prop} → NextC w0 mu n r k Q →
   {c : Cz} → {st : St} → {a : Act} → {w : World} → Rel w0 mu c st a w → a.tmps.size = n → codeK T S D L cd st k = some r → cd.wp P Q a w := by
 intro cd
 induction cd with
 | skip =>
   intro _ _ _ k Q hk c st a w h hn hv; unfold codeK at hv; exact wp_skip (hk h hn hv)
 | region id ops draw =>
   intro hd hL hw k Q hk c st a w h hn hv
   cases draw with
   | false =>
     unfold codeK at hv; exact wp_region_list (opsK_ok hop (Q := Q) (k := fun st' => k .normal st') (fun h1 h2 h3 => hk h1 h2 h3) ops.toList hd h hn hv)
   | true =>
     unfold codeK at hv; exact hD hw hd (k := fun st' => k .normal st') (fun h1 h2 h3 => hk h1 h2 h3) h hn hv
 | seq x y ihx ihy =>
   intro hd hL hw k Q hk c st a w h hn hv; unfold codeK at hv; unfold codeDst at hd; rw [Bool.and_eq_true] at hd; refine wp_seq (ihx hd.1 hL.1 hw.1 (fun {e} {c} {st} {a} {w} h1 h2 h3 => ?_) h hn hv)
   cases e with
   | normal => exact ihy hd.2 hL.2 hw.2 hk h1 h2 h3
   | exit m => exact hk h1 h2 h3
   | ret => exact hk h1 h2 h3
 | cond x y z ihy ihz =>
   intro hd hL hw k Q hk c st a w h hn hv; unfold codeDst at hd; rw [Bool.and_eq_true] at hd
   cases x with
   | tmp t =>
     unfold codeK at hv
     split at hv
     · rename_i b hg; obtain ⟨_, h2⟩ := bool_slot h hg; have hkn := h.know hg
       cases b with
       | true => exact wp_cond_true h2 (ihy hd.1 hL.1 hw.1 hk hkn hn hv)
       | false => exact wp_cond_false h2 (ihz hd.2 hL.2 hw.2 hk hkn hn hv)
     · cases hv
   | _ => unfold codeK at hv; cases hv
 | block id b ih =>
   intro hd hL hw k Q hk c st a w h hn hv
   by_cases hb : ∃ b', b = .loop b'
   · obtain ⟨b', rfl⟩ := hb; unfold codeK at hv; exact hL hk h hn hv
   · have hv' : codeK T S D L b st (fun e st' => match e with
         | .exit n => bif Nat.beq n id then k .normal st' else k (.exit n) st'
         | e => k e st') = some r := by
       cases b with
       | loop b' => exact absurd ⟨b', rfl⟩ hb
       | _ => unfold codeK at hv; exact hv
     have hw' : codeDraw ok b := by
       cases b with
       | loop b' => exact absurd ⟨b', rfl⟩ hb
       | _ => unfold codeDraw at hw; exact hw
     have hL' : codeLoops (LoopAt P w0 mu n L r) b := by
       cases b with
       | loop b' => exact absurd ⟨b', rfl⟩ hb
       | _ => unfold codeLoops at hL; exact hL
     refine wp_block (ih hd hL' hw' (fun {e} {c} {st} {a} {w} h1 h2 h3 => ?_) h hn hv')
     cases e with
     | normal => exact hk h1 h2 h3
     | ret => exact hk h1 h2 h3
     | exit m =>
       simp only at h3; unfold Exit.inBlock; simp only [Ex.go]
       cases hm : Nat.beq m id with
       | true =>
         rw [hm] at h3; rw [if_pos (Nat.eq_of_beq_eq_true hm)]; exact hk h1 h2 h3
       | false =>
         rw [hm] at h3; rw [if_neg (Nat.ne_of_beq_eq_false hm)]; exact hk (e := .exit m) h1 h2 h3
 | exit id =>
   intro _ _ _ k Q hk c st a w h hn hv; unfold codeK at hv; exact wp_exit (hk h hn hv)
 | ret =>
   intro _ _ _ k Q hk c st a w h hn hv; unfold codeK at hv; exact wp_ret (hk h hn hv)
 | _ =>
   intro _ _ _ k Q hk c st a w h hn hv; unfold codeK at hv
   cases hv
end Go.TM
namespace Go.TM
open Go Go.RowKit
def OwnAt (c : Cz) (w : World) (l : Lb) (lc : Loc) (A : Arr) (v : Value) : Prop :=
 v.oneCell' = true ∧ SlAt lc A.r.width 0 A.xs.length v ∧ A.own = true ∧
 match lc with
 | .nil => A.xs = []
 | .at b off cap => c.own b = some l ∧ A.xs.length ≤ cap ∧ (∃ cur ty, w.heap[b]? = some (.cells cur ty (0, 0)) ∧ off + cap * A.r.width ≤ cur.size) ∧
     RowsOk c w l A b off
def HoldL (c : Cz) (w : World) (f : Nat → Lb) : (j : Nat) → List OV → List Value → Prop
 | _, [], vs => vs = []
 | j, .int k n :: os, vs => ∃ l, vs = .int k n :: l ∧ HoldL c w f (j + 1) os l
 | j, .bool b :: os, vs => ∃ l, vs = .bool b :: l ∧ HoldL c w f (j + 1) os l
 | j, .str s :: os, vs => ∃ l, vs = .string s :: l ∧ HoldL c w f (j + 1) os l
 | j, .nils :: os, vs => ∃ l, vs = .slice none 0 0 :: l ∧ HoldL c w f (j + 1) os l
 | j, .shr r xs :: os, vs => ∃ v l, vs = v :: l ∧ RepTy w c.ok (.sl r) v xs ∧ HoldL c w f (j + 1) os l
 | j, .own A :: os, vs => ∃ v l, vs = v :: l ∧ (∃ lc, OwnAt c w (f j) lc A v) ∧ HoldL c w f (j + 1) os l
 | j, .rpt r xs :: os, vs => ∃ v l, vs = v :: l ∧ PtrAt w c.ok r v xs ∧ HoldL c w f (j + 1) os l
 | j, .fn g rs xs :: os, vs => ∃ v l, vs = v :: l ∧ FnAt w c.ok g rs v xs ∧ HoldL c w f (j + 1) os l
def BoxAt (c : Cz) (w : World) (i : Nat) (os : List OV) (v : Value) : Prop :=
 ∃ blk vs ty, v = .pointer (some ⟨blk, 0, none⟩) ∧ c.own blk = some (.pbox i) ∧ w.heap[blk]? = some (.cells vs ty (0, 0)) ∧ HoldL c w (.pend i) 0 os vs.toList
def LocAt (c : Cz) (w : World) (i : Nat) (lc : Nat → Loc) (j : Nat) (o : OV) (u : Value) : Prop :=
 match o with
 | .own A => OwnAt c w (.pend i j) (lc j) A u
 | .nils => lc j = .nil
 | _ => True
def HoldA (c : Cz) (w : World) (i : Nat) (lc : Nat → Loc) : AV → Value → Prop
 | .val false os, v => HoldL c w (.pend i) 0 os [v]
 | .val true os, v => ∃ vs, v = .agg vs ∧ HoldL c w (.pend i) 0 os vs.toList
 | .io A, v => OwnAt c w (.pend i 0) (lc 0) A v
 | .box os, v => BoxAt c w i os v
 | .lend os, v => ∃ vs, v = .agg vs ∧ HoldL c w (.pend i) 0 os vs.toList ∧ ∀ j o u, os[j]? = some o → vs.toList[j]? = some u → LocAt c w i lc j o u
def HoldAs (c : Cz) (w : World) (lc : Nat → Nat → Loc) : (i : Nat) → List AV → List Value → Prop
 | _, [], vs => vs = []
 | i, a :: as, vs => ∃ v l, vs = v :: l ∧ HoldA c w i (lc i) a v ∧ HoldAs c w lc (i + 1) as l
def LendX (c : Cz) (w : World) (i : Nat) (lc : Nat → Loc) (os : List OV) (us : List Value) (As : List (Option Arr)) : Prop :=
 ∀ j A, os[j]? = some (.own A) → ∃ B u, nth As j = some (some B) ∧ us[j]? = some u ∧ B.r.width = A.r.width ∧ B.xs.length = A.xs.length ∧ OwnAt c w (.pend i j) (lc j) B u
def HoldX (c : Cz) (w : World) (lc : Nat → Nat → Loc) : (i : Nat) → List AV → List Value → List XV → Prop
 | _, [], _, xs => xs = []
 | _, _ :: _, [], _ => False
 | i, .val _ _ :: as, _ :: vs, xs => HoldX c w lc (i + 1) as vs xs
 | i, .io A :: as, v :: vs, xs => ∃ B l, xs = .io B :: l ∧ B.r.width = A.r.width ∧ B.xs.length = A.xs.length ∧ OwnAt c w (.pend i 0) (lc i 0) B v ∧ HoldX c w lc (i + 1) as vs l
 | i, .box _ :: as, v :: vs, xs => ∃ os l, xs = .box os :: l ∧ BoxAt c w i os v ∧ HoldX c w lc (i + 1) as vs l
 | i, .lend os :: as, v :: vs, xs => ∃ As l, xs = .lend As :: l ∧ (∃ us, v = .agg us ∧ LendX c w i (lc i) os us.toList As) ∧ HoldX c w lc (i + 1) as vs l
def HoldR (c : Cz) (w : World) : (j : Nat) → List RV → List Value → Prop
 | _, [], vs => vs = []
 | j, .one o :: rs, vs => ∃ v l, vs = v :: l ∧ HoldL c w .pres j [o] [v] ∧ HoldR c w (j + 1) rs l
 | j, .agg os :: rs, vs => ∃ us l, vs = .agg us :: l ∧ HoldL c w .pres j os us.toList ∧ HoldR c w (j + os.length) rs l
 | j, .ptr os :: rs, vs => ∃ v l, vs = v :: l ∧ (∃ blk us ty, v = .pointer (some ⟨blk, 0, none⟩) ∧ c.own blk = some (.pres j) ∧ w.heap[blk]? = some (.cells us ty (0, 0)) ∧ HoldL c w .pres (j + 1) os us.toList) ∧ HoldR c w (j + (os.length + 1)) rs l
def HoldV (c : Cz) (w : World) (rs : List RV) (v : Value) : Prop :=
 (∃ r, rs = [r] ∧ HoldR c w 0 [r] [v]) ∨ (rs.length ≠ 1 ∧ ∃ vs, v = .tuple vs ∧ HoldR c w 0 rs vs.toList)
structure Bas (w0 : World) (mu : Mu) (c : Cz) (w : World) : Prop where
 owned : ∀ b l, c.own b = some l → b < w.heap.size ∧ (l = .out ∨ w0.heap.size ≤ b ∨ mu.m b)
 free : ∀ b, b < w0.heap.size → c.own b = none → mu.m b ∨ mu.ok b
 kept : w.os = w0.os ∧ w.tape = w0.tape ∧ w.output = w0.output ∧ w0.heap.size ≤ w.heap.size
 old : ∀ k, k < w0.heap.size → ¬ mu.m k → w.heap[k]? = w0.heap[k]?
def Lb.handed : Lb → Bool
 | .pend _ _ => true
 | .pbox _ => true
 | _ => false
structure Handed (c : Cz) (w : World) (mu : Mu) : Prop where
 m : ∀ b, mu.m b ↔ ∃ l, c.own b = some l ∧ l.handed = true
 ok : ∀ b, mu.ok b ↔ c.own b = none
 lt : ∀ b l, c.own b = some l → b < w.heap.size
 lb : ∀ b l, c.own b = some l → l = .out ∨ l.handed = true
def FnOk (P : Program) (f : FuncId) (sem : Sem1) : Prop :=
 ∀ (c : Cz) (w : World) (mu : Mu) (lc : Nat → Nat → Loc) (avs : List AV) (args : Array Value) (A : Ans) (x : denR A.r), Handed c w mu → HoldAs c w lc 0 avs args.toList → sem avs = some A → A.o = some x →
   Calls P f args w fun e w' => ∃ v, e = .returned v ∧ ∃ c', Bas w mu c' w' ∧ HoldV c' w' (A.res x).outs v ∧ HoldX c' w' lc 0 avs args.toList (A.res x).exts
mutual
theorem RepTy.plain {w : World} {ok ok' : Nat → Prop} : (t : Ty) → (v : Value) → (x : den t) → RT.slices (.cons t .nil) = false → RepTy w ok t v x → RepTy w ok' t v x
 | .int _, _, _, _, h => by unfold RepTy at h ⊢; exact h
 | .bool, _, _, _, h => by unfold RepTy at h ⊢; exact h
 | .str, _, _, _, h => by unfold RepTy at h ⊢; exact h
 | .sl _, _, _, hs, _ => by simp [RT.slices] at hs
theorem RepR.plain {w : World} {ok ok' : Nat → Prop} : (r : RT) → (b off : Nat) → (x : denR r) → r.slices = false → RepR w ok r b off x → RepR w ok' r b off x
 | .nil, _, _, _, _, _ => by unfold RepR; trivial
 | .cons t r, b, off, x, hs, h => by
   unfold RepR at h ⊢; obtain ⟨⟨v, h1, h2⟩, h3⟩ := h; refine ⟨⟨v, h1, RepTy.plain t v x.1 ?_ h2⟩, RepR.plain r b (off + 1) x.2 ?_ h3⟩
   · cases t <;> simp_all [RT.slices]
   · cases t <;> simp_all [RT.slices]
end
structure Pass (c c' : Cz) (pd : Lb → Prop) : Prop where
 pend : ∀ b l, pd l → c.own b = some l → c'.own b = some l
 ok : ∀ b, c.ok b → c'.ok b
theorem OwnAt.pass {c c' : Cz} {w : World} {l : Lb} {lc : Loc} {A : Arr} {v : Value} (hp : ∀ b, c.own b = some l → c'.own b = some l) (ho : (∀ b, c.ok b → c'.ok b) ∨ (!A.r.slices || A.md.is .dp) = true) (h : OwnAt c w l lc A v) : OwnAt c' w l lc A v := by
 unfold OwnAt at h ⊢; obtain ⟨h1, h2, h3, h4⟩ := h; refine ⟨h1, h2, h3, ?_⟩
 cases lc with
 | nil => exact h4
 | «at» b off cap =>
   obtain ⟨g1, g2, g3, g4⟩ := h4; refine ⟨hp b g1, g2, g3, ?_⟩
   by_cases hpl : A.md = .sh ∧ A.r.slices = false
   · exact (RowsOk.sh hpl.1).2 fun i x hx => RepR.plain _ _ _ _ hpl.2 ((RowsOk.sh hpl.1).1 g4 i x hx)
   · refine g4.go (fun hm => ?_) rfl (fun _ k hk => ⟨rfl, hp k hk⟩); rcases ho with ho | ho
     · exact ⟨Nat.le_refl _, fun _ _ _ => rfl, fun b _ h => ho b h⟩
     · rw [hm] at ho; simp [Md.is] at ho; exact absurd ⟨hm, ho⟩ hpl
theorem HoldL.pass {c c' : Cz} {w : World} {f : Nat → Lb} (hp : ∀ b j, c.own b = some (f j) → c'.own b = some (f j)) : (os : List OV) → ((∀ b, c.ok b → c'.ok b) ∨ os.all OV.plain = true) → (j : Nat) → (vs : List Value) → HoldL c w f j os vs → HoldL c' w f j os vs
 | [], _, _, _, h => h
 | .int k n :: os, ho, j, vs, h => by
   obtain ⟨l, h1, h2⟩ := h; exact ⟨l, h1, HoldL.pass hp os (ho.imp id fun h => by simp at h; simpa using h.2) (j + 1) l h2⟩
 | .bool k :: os, ho, j, vs, h => by
   obtain ⟨l, h1, h2⟩ := h; exact ⟨l, h1, HoldL.pass hp os (ho.imp id fun h => by simp at h; simpa using h.2) (j + 1) l h2⟩
 | .str k :: os, ho, j, vs, h => by
   obtain ⟨l, h1, h2⟩ := h; exact ⟨l, h1, HoldL.pass hp os (ho.imp id fun h => by simp at h; simpa using h.2) (j + 1) l h2⟩
 | .nils :: os, ho, j, vs, h => by
   obtain ⟨l, h1, h2⟩ := h; exact ⟨l, h1, HoldL.pass hp os (ho.imp id fun h => by simp at h; simpa using h.2) (j + 1) l h2⟩
 | .shr r xs :: os, ho, j, vs, h => by
   obtain ⟨v, l, h1, h2, h3⟩ := h; refine ⟨v, l, h1, ?_, HoldL.pass hp os (ho.imp id fun h => by simp at h; simpa using h.2) (j + 1) l h3⟩; rcases ho with ho | ho
   · exact RepTy.stays ⟨Nat.le_refl _, fun _ _ _ => rfl, fun b _ h => ho b h⟩ _ _ _ h2
   · simp [OV.plain] at ho
 | .rpt r xs :: os, ho, j, vs, h => by
   obtain ⟨v, l, h1, h2, h3⟩ := h; refine ⟨v, l, h1, ?_, HoldL.pass hp os (ho.imp id fun h => by simp at h; simpa using h.2) (j + 1) l h3⟩; rcases ho with ho | ho
   · exact h2.stays ⟨Nat.le_refl _, fun _ _ _ => rfl, fun b _ h => ho b h⟩
   · simp [OV.plain] at ho
 | .fn g rs xs :: os, ho, j, vs, h => by
   obtain ⟨v, l, h1, h2, h3⟩ := h; refine ⟨v, l, h1, ?_, HoldL.pass hp os (ho.imp id fun h => by simp at h; simpa using h.2) (j + 1) l h3⟩; rcases ho with ho | ho
   · exact h2.stays ⟨Nat.le_refl _, fun _ _ _ => rfl, fun b _ h => ho b h⟩
   · simp [OV.plain] at ho
 | .own A :: os, ho, j, vs, h => by
   obtain ⟨v, l, h1, ⟨lc, h2⟩, h3⟩ := h; refine ⟨v, l, h1, ⟨lc, h2.pass (fun b => hp b j) (ho.imp id fun h => ?_)⟩, HoldL.pass hp os (ho.imp id fun h => by simp at h; simpa using h.2) (j + 1) l h3⟩; rw [List.all_cons, Bool.and_eq_true] at h; exact h.1
theorem BoxAt.pass {c c' : Cz} {w : World} {i : Nat} {os : List OV} {v : Value} (hb : ∀ b, c.own b = some (.pbox i) → c'.own b = some (.pbox i)) (hp : ∀ b j, c.own b = some (.pend i j) → c'.own b = some (.pend i j)) (ho : (∀ b, c.ok b → c'.ok b) ∨ os.all OV.plain = true) (h : BoxAt c w i os v) : BoxAt c' w i os v := by
 obtain ⟨blk, vs, ty, h1, h2, h3, h4⟩ := h; exact ⟨blk, vs, ty, h1, hb _ h2, h3, HoldL.pass hp os ho 0 _ h4⟩
theorem HoldR.pass {c c' : Cz} {w : World} (hp : ∀ b j, c.own b = some (.pres j) → c'.own b = some (.pres j)) : (rs : List RV) → ((∀ b, c.ok b → c'.ok b) ∨ rs.all (fun o => o.ovs.all OV.plain) = true) → (j : Nat) → (vs : List Value) → HoldR c w j rs vs → HoldR c' w j rs vs
 | [], _, _, _, h => h
 | .one o :: rs, ho, j, vs, h => by
   obtain ⟨v, l, h1, h2, h3⟩ := h; exact ⟨v, l, h1, HoldL.pass hp [o] (ho.imp id fun h => by simp [RV.ovs] at h; simpa using h.1) _ _ h2, HoldR.pass hp rs (ho.imp id fun h => by simp at h; simpa using h.2) _ _ h3⟩
 | .agg os :: rs, ho, j, vs, h => by
   obtain ⟨v, l, h1, h2, h3⟩ := h; exact ⟨v, l, h1, HoldL.pass hp os (ho.imp id fun h => by simp [RV.ovs] at h; simpa using h.1) _ _ h2, HoldR.pass hp rs (ho.imp id fun h => by simp at h; simpa using h.2) _ _ h3⟩
 | .ptr os :: rs, ho, j, vs, h => by
   obtain ⟨v, l, h1, ⟨blk, us, ty, g1, g2, g3, g4⟩, h3⟩ := h; exact ⟨v, l, h1, ⟨blk, us, ty, g1, hp _ _ g2, g3, HoldL.pass hp os (ho.imp id fun h => by simp [RV.ovs] at h; simpa using h.1.2) _ _ g4⟩, HoldR.pass hp rs (ho.imp id fun h => by simp at h; simpa using h.2) _ _ h3⟩
theorem HoldV.pass {c c' : Cz} {w : World} (hp : ∀ b j, c.own b = some (.pres j) → c'.own b = some (.pres j)) {rs : List RV} (ho : (∀ b, c.ok b → c'.ok b) ∨ rs.all (fun o => o.ovs.all OV.plain) = true) {v : Value} (h : HoldV c w rs v) : HoldV c' w rs v := by
 rcases h with ⟨r, h1, h2⟩ | ⟨h1, vs, h2, h3⟩
 · subst h1; exact .inl ⟨r, rfl, HoldR.pass hp _ ho _ _ h2⟩
 · exact .inr ⟨h1, vs, h2, HoldR.pass hp _ ho _ _ h3⟩
theorem LendX.pass {c c' : Cz} {w : World} {i : Nat} {lc : Nat → Loc} {os : List OV} {us : List Value} {As : List (Option Arr)} (hp : ∀ b j, c.own b = some (.pend i j) → c'.own b = some (.pend i j)) (ho : (∀ b, c.ok b → c'.ok b) ∨ XV.plain (.lend As) = true) (h : LendX c w i lc os us As) : LendX c' w i lc os us As := by
 intro j A hA; obtain ⟨B, u, h1, h2, h3, h4, h5⟩ := h j A hA; refine ⟨B, u, h1, h2, h3, h4, h5.pass (fun b => hp b j) (ho.imp id fun h => ?_)⟩; have hm : some B ∈ As := by rw [nth_eq] at h1; exact List.mem_of_getElem? h1
 have := List.all_eq_true.1 h _ hm; simpa using this
theorem HoldX.pass {c c' : Cz} {w : World} {lc : Nat → Nat → Loc} : (as : List AV) → (i : Nat) → (hb : ∀ b k, i ≤ k → c.own b = some (.pbox k) → c'.own b = some (.pbox k)) → (hp : ∀ b k j, i ≤ k → c.own b = some (.pend k j) → c'.own b = some (.pend k j)) → (vs : List Value) → (xs : List XV) → ((∀ b, c.ok b → c'.ok b) ∨ xs.all XV.plain = true) → HoldX c w lc i as vs xs → HoldX c' w lc i as vs xs
 | [], _, _, _, _, _, _, h => h
 | _ :: _, _, _, _, [], _, _, h => h.elim
 | .val _ _ :: as, i, hb, hp, _ :: vs, xs, ho, h => HoldX.pass as (i + 1) (fun b k hk => hb b k (by omega)) (fun b k j hk => hp b k j (by omega)) vs xs ho h
 | .io A :: as, i, hb, hp, v :: vs, xs, ho, h => by
   obtain ⟨B, l, h1, h2, h3, h4, h5⟩ := h; subst h1; refine ⟨B, l, rfl, h2, h3, h4.pass (fun b => hp b i 0 (Nat.le_refl _)) (ho.imp id fun h => by rw [List.all_cons, Bool.and_eq_true] at h; exact h.1), HoldX.pass as (i + 1) (fun b k hk => hb b k (by omega)) (fun b k j hk => hp b k j (by omega)) vs l (ho.imp id fun h => by simp at h; simpa using h.2) h5⟩
 | .lend _ :: as, i, hb, hp, v :: vs, xs, ho, h => by
   obtain ⟨As, l, h1, ⟨us, h2, h3⟩, h4⟩ := h; subst h1; refine ⟨As, l, rfl, ⟨us, h2, h3.pass (fun b j => hp b i j (Nat.le_refl _)) (ho.imp id fun h => by rw [List.all_cons, Bool.and_eq_true] at h; exact h.1)⟩, HoldX.pass as (i + 1) (fun b k hk => hb b k (by omega)) (fun b k j hk => hp b k j (by omega)) vs l (ho.imp id fun h => by rw [List.all_cons, Bool.and_eq_true] at h; exact h.2) h4⟩
 | .box _ :: as, i, hb, hp, v :: vs, xs, ho, h => by
   obtain ⟨os, l, h1, h2, h3⟩ := h; subst h1; refine ⟨os, l, rfl, h2.pass (fun b => hb b i (Nat.le_refl _)) (fun b j => hp b i j (Nat.le_refl _)) (ho.imp id fun h => by simp [XV.plain] at h; simpa using h.1), HoldX.pass as (i + 1) (fun b k hk => hb b k (by omega)) (fun b k j hk => hp b k j (by omega)) vs l (ho.imp id fun h => by simp at h; simpa using h.2) h3⟩
end Go.TM
namespace Go.TM
open Go Go.RowKit
def Cz.map (c : Cz) (ρ : Lb → Option Lb) : Cz := { bx := c.bx, lc := c.lc, own := fun b => (c.own b).bind ρ }
theorem Cz.map_ok {c : Cz} {ρ : Lb → Option Lb} {b : Nat} (h : c.ok b) : (c.map ρ).ok b := by
 unfold Cz.ok Cz.map at *; simp [h]
theorem Cz.map_some {c : Cz} {ρ : Lb → Option Lb} {b : Nat} {l : Lb} (h : (c.map ρ).own b = some l) : ∃ k, c.own b = some k ∧ ρ k = some l := by
 unfold Cz.map at h; exact Option.bind_eq_some_iff.1 h
theorem Cz.map_own {c : Cz} {ρ : Lb → Option Lb} {b : Nat} {l : Lb} (h : c.own b = some l) : (c.map ρ).own b = ρ l := by
 unfold Cz.map; simp [h]
theorem RowsOk.map {c : Cz} {w : World} {l l' : Lb} {A : Arr} {b off : Nat} (h : RowsOk c w l A b off) {ρ : Lb → Option Lb} (hρ : ρ l = some l') : RowsOk (c.map ρ) w l' A b off :=
 h.go (fun _ => ⟨Nat.le_refl _, fun _ _ _ => rfl, fun b _ hb => Cz.map_ok hb⟩) rfl (fun _ _ hk => ⟨rfl, (Cz.map_own hk).trans hρ⟩)
theorem own_part {c : Cz} {w : World} {s j : Nat} {A : Arr} (h : ArrOk c w s j A) (ho : A.own = true) {vw : View} {u : Value} (h1 : u.oneCell' = true) (hu : SlAt (c.lc s j) A.r.width vw.lo (vw.app A.xs).length u)
   {ρ : Lb → Option Lb} {l : Lb} (hρ : ρ (.sp s j) = some l) (hvw : A.md.is .sh = true ∨ vw.isFull = true) : ∃ lc, OwnAt (c.map ρ) w l lc { A with xs := vw.app A.xs } u := by
 cases hl : c.lc s j with
 | nil =>
   unfold SlAt at hu; rw [hl] at hu; exact ⟨.nil, h1, hu, ho, List.length_eq_zero_iff.1 hu.2⟩
 | «at» b off cap =>
   unfold SlAt at hu; rw [hl] at hu; obtain ⟨a, k, rfl, hk, hcap, ha⟩ := hu; unfold ArrOk at h; rw [hl] at h; obtain ⟨h0, _, ⟨cur, ty, h3, h4⟩, h5⟩ := h; rw [ho] at h0; refine ⟨.at b (off + vw.lo * A.r.width) k, h1, ⟨a, k, rfl, hk, by omega, by simpa using ha⟩, ho, (Cz.map_own h0).trans hρ, hk, ⟨cur, ty, h3, ?_⟩, ?_⟩
   · have : (vw.lo + k) * A.r.width ≤ cap * A.r.width := Nat.mul_le_mul_right _ hcap; rw [Nat.add_mul] at this; show off + vw.lo * A.r.width + k * A.r.width ≤ cur.size; omega
   · have hmm : A.md = .sh ∨ A.md ≠ .sh := Classical.em _; rcases hmm with hm | hm
     · refine RowsOk.putSh hm fun i x hi => ?_
       have := (RowsOk.sh hm).1 h5 _ x (View.app_get vw A.xs hi); have e : off + vw.lo * A.r.width + i * A.r.width = off + (vw.lo + i) * A.r.width := by rw [Nat.add_mul]; omega
       rw [e]; exact RepR.stays ⟨Nat.le_refl _, fun _ _ _ => rfl, fun b _ hb => Cz.map_ok hb⟩ _ _ _ x rfl this
     · have hf : vw = .full := by
         rcases hvw with hvw | hvw
         · exact absurd (Md.is_iff.1 hvw) hm
         · cases vw with
           | full => rfl
           | «from» _ => cases hvw
           | sub _ _ => cases hvw
       subst hf; have := h5.go (c' := c.map ρ) (w' := w) (l' := l) (fun e => absurd e hm) rfl (fun _ k hk => ⟨rfl, (Cz.map_own hk).trans hρ⟩); simpa [View.lo, View.app] using this
theorem RelL.cons' {c : Cz} {st : St} {w : World} {x : CV} {cs : List CV} {vs : List Value} (h : RelL c st w (x :: cs) vs) : ∃ v l, vs = v :: l ∧ RelC c st w x v ∧ RelL c st w cs l := by
 obtain ⟨h1, h2⟩ := h
 cases vs with
 | nil => simp at h1
 | cons v l => exact ⟨v, l, rfl, h2 0 x v rfl rfl, by simpa using h1, fun i y u hy hu => h2 (i + 1) y u (by simpa using hy) (by simpa using hu)⟩
theorem nth_append {α : Type} (l m : List α) (n : Nat) : nth (l ++ m) n = if n < l.length then nth l n else nth m (n - l.length) := by
 simp only [nth_eq]
 by_cases h : n < l.length
 · rw [if_pos h, List.getElem?_append_left h]
 · rw [if_neg h, List.getElem?_append_right (by omega)]
theorem rel_arr {w0 : World} {mu : Mu} {c : Cz} {st : St} {a : Act} {w : World} (h : Rel w0 mu c st a w) {s j g : Nat} {A : Arr} (hA : arr? st s j g = some A) : ArrOk c w s j A := by
 obtain ⟨sl, h1, _, h3⟩ := arr?_some hA; exact h.arrs s j sl A h1 h3
theorem depR_cell {w : World} {P : List Nat → Nat → Prop} {q : RT} {ys : List (denR q)} {b : Nat} : (r : RT) → (p : List Nat) → (k0 off : Nat) → (x : denR r) → (k : Nat) → DepR w P r p k0 b off x → rowSl r x k = some ⟨q, ys⟩ → ∃ v, w.cell? ⟨b, off + k, none⟩ = some v ∧ DepTy w P (.sl q) (p ++ [k0 + k]) v ys
 | .nil, _, _, _, _, _, _, h => by simp [rowSl] at h
 | .cons t r, p, k0, off, x, 0, hd, h => by
   unfold DepR at hd; obtain ⟨⟨v, h1, h2⟩, _⟩ := hd
   cases t with
   | sl q' =>
     have h : some (⟨q', x.1⟩ : (q : RT) × List (denR q)) = some ⟨q, ys⟩ := h; injection h with h; injection h with e1 e2; subst e1; have e2 := eq_of_heq e2; subst e2; exact ⟨v, h1, h2⟩
   | int _ => simp [rowSl] at h
   | bool => simp [rowSl] at h
   | str => simp [rowSl] at h
 | .cons t r, p, k0, off, x, k + 1, hd, h => by
   unfold DepR at hd; have h' : rowSl r x.2 k = some ⟨q, ys⟩ := by cases t <;> exact h
   obtain ⟨v, h1, h2⟩ := depR_cell r p (k0 + 1) (off + 1) x.2 k hd.2 h'; exact ⟨v, by rw [show off + (k + 1) = off + 1 + k by omega]; exact h1, by rw [show k0 + (k + 1) = k0 + 1 + k by omega]; exact h2⟩
theorem dref_dep {c : Cz} {st : St} {w : World} {a j g e i k : Nat} {q : RT} {ys : List (denR q)} {v : Value} {A : Arr} (hx : RelC c st w (.dref a j g e i k q ys) v) (hA : arr? st a j g = some A) (he : epO st a = e) (ha : ArrOk c w a j A) :
   ∃ (gg : Nat → List Nat) (b o cap : Nat), c.lc a j = .at b o cap ∧ A.md = .dp ∧ gg b = [] ∧ w.cell? ⟨b, o + i * A.r.width + k, none⟩ = some v ∧ (∀ (i : Nat) x, A.xs[i]? = some x → DepR w (fun p k => c.own k = some (.sp a j) ∧ gg k = p) A.r [i] 0 b (o + i * A.r.width) x) ∧
     (∃ x, A.xs[i]? = some x ∧ rowSl A.r x k = some ⟨q, ys⟩) ∧ DepTy w (fun p k => c.own k = some (.sp a j) ∧ gg k = p) (.sl q) [i, k] v ys := by
 obtain ⟨_, _, _, h⟩ := hx; obtain ⟨hm, ⟨x, hxi, hrs⟩, b, o, cap, hlc, hcell⟩ := h A hA he; unfold ArrOk at ha; rw [hlc] at ha; obtain ⟨_, _, _, hrow⟩ := ha; unfold RowsOk at hrow; rw [hm] at hrow; obtain ⟨gg, hg0, hrow⟩ := hrow; obtain ⟨v', h1, h2⟩ := depR_cell A.r [i] 0 _ x k (hrow i x hxi) hrs; rw [hcell] at h1
 cases h1
 exact ⟨gg, b, o, cap, hlc, hm, hg0, hcell, hrow, ⟨x, hxi, hrs⟩, by simpa using h2⟩
theorem expC_rpt {st : St} {own : Bool} {q : RT} {y : denR q} {off : Nat} {o : OV} {u : Option Lb} {r : List (Nat × Nat)} (h : expC st own (.rpt q y off) = some (o, u, r)) : o = .rpt q [y] ∧ u = none ∧ r = [] := by
 unfold expC at h; obtain ⟨_, h⟩ := bif_some h; simp only [Option.some.injEq, Prod.mk.injEq] at h; exact ⟨h.1.symm, h.2.1.symm, h.2.2.symm⟩
theorem expC_rptl {st : St} {own : Bool} {q : RT} {y : List (denR q)} {off : Nat} {o : OV} {u : Option Lb} {r : List (Nat × Nat)} (h : expC st own (.rptl q y off) = some (o, u, r)) : o = .rpt q y ∧ u = none ∧ r = [] := by
 unfold expC at h; obtain ⟨_, h⟩ := bif_some h; simp only [Option.some.injEq, Prod.mk.injEq] at h; exact ⟨h.1.symm, h.2.1.symm, h.2.2.symm⟩
theorem expC_ok {w0 : World} {mu : Mu} {c : Cz} {st : St} {a : Act} {w : World} (h : Rel w0 mu c st a w) {own : Bool} {ρ : Lb → Option Lb} {f : Nat → Lb} {j : Nat} {x : CV} {v : Value} (hx : RelC c st w x v) {o : OV} {u : Option Lb} {r : List (Nat × Nat)}
   (hc : expC st own x = some (o, u, r)) (hu : ∀ l, u = some l → ρ l = some (f j)) (hr : ∀ p ∈ r, ρ (.sp p.1 p.2) = none) {os : List OV} {l : List Value} (hh : HoldL (c.map ρ) w f (j + 1) os l) : HoldL (c.map ρ) w f j (o :: os) (v :: l) := by
 cases x with
 | int k n =>
   simp only [expC, Option.some.injEq, Prod.mk.injEq] at hc; obtain ⟨rfl, rfl, _⟩ := hc; have e : v = .int k n := hx; exact ⟨l, by rw [e], hh⟩
 | bool n =>
   simp only [expC, Option.some.injEq, Prod.mk.injEq] at hc; obtain ⟨rfl, rfl, _⟩ := hc; have e : v = .bool n := hx; exact ⟨l, by rw [e], hh⟩
 | str n =>
   simp only [expC, Option.some.injEq, Prod.mk.injEq] at hc; obtain ⟨rfl, rfl, _⟩ := hc; have e : v = .string n := hx; exact ⟨l, by rw [e], hh⟩
 | nils =>
   simp only [expC, Option.some.injEq, Prod.mk.injEq] at hc; obtain ⟨rfl, rfl, _⟩ := hc; have e : v = .slice none 0 0 := hx; exact ⟨l, by rw [e], hh⟩
 | shr q xs =>
   simp only [expC, Option.some.injEq, Prod.mk.injEq] at hc; obtain ⟨rfl, rfl, _⟩ := hc; have e : RepTy w c.ok (.sl q) v xs := hx; exact ⟨v, l, rfl, RepTy.stays ⟨Nat.le_refl _, fun _ _ _ => rfl, fun b _ hb => Cz.map_ok hb⟩ _ _ _ e, hh⟩
 | nn q xs =>
   simp only [expC, Option.some.injEq, Prod.mk.injEq] at hc; obtain ⟨rfl, rfl, _⟩ := hc; have e : RepTy w c.ok (.sl q) v xs := hx.1; exact ⟨v, l, rfl, RepTy.stays ⟨Nat.le_refl _, fun _ _ _ => rfl, fun b _ hb => Cz.map_ok hb⟩ _ _ _ e, hh⟩
 | ref s k g vw =>
   unfold expC at hc; simp only at hc
   cases hA : arr? st s k g with
   | none => simp [hA] at hc
   | some A =>
     simp only [hA] at hc; have ha := rel_arr h hA; have hs := hx.2.2 A hA; have hmd' : A.md.hol = false := by cases hm : A.md <;> simp_all [Md.hol]
     have hmd := hmd'; simp only [hmd', cond_false] at hc
     cases hb : (own && A.own && (A.md.is .sh || vw.isFull)) with
     | true =>
       simp only [hb, cond_true, Option.some.injEq, Prod.mk.injEq] at hc; obtain ⟨rfl, rfl, rfl⟩ := hc; rw [Bool.and_eq_true, Bool.and_eq_true, Bool.or_eq_true] at hb; obtain ⟨lc, g1⟩ := own_part ha hb.1.2 hx.1 hs (hu _ rfl) hb.2; exact ⟨v, l, rfl, ⟨lc, g1⟩, hh⟩
     | false =>
       simp only [hb, cond_false, Option.some.injEq, Prod.mk.injEq] at hc; obtain ⟨rfl, rfl, rfl⟩ := hc; refine ⟨v, l, rfl, ?_, hh⟩; refine slAt_rep ha hs (fun b hb => Cz.map_ok hb) (fun b _ hk => ?_) hmd; exact (Cz.map_own hk).trans (hr (s, k) (by simp))
 | dref s k g e i kk q ys =>
   unfold expC at hc; simp only at hc
   cases hA : arr? st s k g with
   | none => simp [hA] at hc
   | some A =>
     simp only [hA] at hc; obtain ⟨h1, hc⟩ := bif_some hc; rw [Bool.and_eq_true] at h1; simp only [Option.some.injEq, Prod.mk.injEq] at hc; obtain ⟨rfl, rfl, rfl⟩ := hc; obtain ⟨gg, b, o, cap, _, _, _, _, _, _, hd⟩ := dref_dep hx hA (Nat.eq_of_beq_eq_true h1.2).symm (rel_arr h hA); exact ⟨v, l, rfl, DepTy.rep (fun p kb hk => (Cz.map_own hk.1).trans (hr (s, k) (by simp))) _ _ _ _ hd, hh⟩
 | bad => simp [expC] at hc
 | nilp => simp [expC] at hc
 | ptr _ _ _ => simp [expC] at hc
 | ept _ _ _ _ _ => simp [expC] at hc
 | rpt q y off =>
   unfold expC at hc; obtain ⟨h1, hc⟩ := bif_some hc; have h1 := Nat.eq_of_beq_eq_true h1; subst h1; simp only [Option.some.injEq, Prod.mk.injEq] at hc; obtain ⟨rfl, rfl, _⟩ := hc; obtain ⟨b, o, e1, e2, e3, e4⟩ := hx; refine ⟨v, l, rfl, ⟨b, o, e1, e2, Cz.map_ok e3, fun z hz => ?_⟩, hh⟩; simp at hz; subst hz; exact RepR.stays ⟨Nat.le_refl _, fun _ _ _ => rfl, fun b _ hb => Cz.map_ok hb⟩ _ _ _ _ rfl e4
 | rptl q ys off =>
   unfold expC at hc; obtain ⟨h1, hc⟩ := bif_some hc; have h1 := Nat.eq_of_beq_eq_true h1; subst h1; simp only [Option.some.injEq, Prod.mk.injEq] at hc; obtain ⟨rfl, rfl, _⟩ := hc; obtain ⟨b, o, e1, e2, e3, e4⟩ := hx; exact ⟨v, l, rfl, ⟨b, o, e1, e2, Cz.map_ok e3, fun z hz => RepR.stays ⟨Nat.le_refl _, fun _ _ _ => rfl, fun b _ hb => Cz.map_ok hb⟩ _ _ _ _ rfl (e4 z hz)⟩, hh⟩
 | fn g rs ys =>
   simp only [expC, Option.some.injEq, Prod.mk.injEq] at hc; obtain ⟨rfl, rfl, _⟩ := hc; have hx : FnAt w c.ok g rs v ys := hx; exact ⟨v, l, rfl, hx.stays ⟨Nat.le_refl _, fun _ _ _ => rfl, fun b _ hb => Cz.map_ok hb⟩, hh⟩
theorem expL_ok {w0 : World} {mu : Mu} {c : Cz} {st : St} {a : Act} {w : World} (h : Rel w0 mu c st a w) {own : Bool} {ρ : Lb → Option Lb} {f : Nat → Lb} : (cs : List CV) → (vs : List Value) → (j : Nat) → RelL c st w cs vs → {os : List OV} → {u : List (Option Lb)} → {r : List (Nat × Nat)} →
   expL st own cs = some (os, u, r) → (∀ k l, nth u k = some (some l) → ρ l = some (f (j + k))) → (∀ p ∈ r, ρ (.sp p.1 p.2) = none) → HoldL (c.map ρ) w f j os vs
 | [], vs, j, hl, os, u, r, he, _, _ => by
   simp only [expL, Option.some.injEq, Prod.mk.injEq] at he; obtain ⟨rfl, rfl, rfl⟩ := he; have := hl.1; simp at this; exact List.length_eq_zero_iff.1 this.symm
 | x :: cs, vs, j, hl, os, u, r, he, hu, hr => by
   obtain ⟨v, l, rfl, hx, hl'⟩ := hl.cons'; unfold expL at he
   cases hc : expC st own x with
   | none => simp [hc] at he
   | some p =>
     obtain ⟨o, u1, r1⟩ := p
     cases hq : expL st own cs with
     | none => simp [hc, hq] at he
     | some q =>
       obtain ⟨os', us, rs⟩ := q; simp only [hc, hq, Option.some.injEq, Prod.mk.injEq] at he; obtain ⟨rfl, rfl, rfl⟩ := he; refine expC_ok h hx hc (fun l hl => hu 0 l (by rw [hl]; rfl)) (fun p hp => hr p (List.mem_append_left _ hp)) ?_; refine expL_ok h cs l (j + 1) hl' hq (fun k' l' hk => ?_) (fun p hp => hr p (List.mem_append_right _ hp)); have := hu (k' + 1) l' hk
       rwa [show j + (k' + 1) = j + 1 + k' by omega] at this
end Go.TM
namespace Go.TM
open Go Go.RowKit
def Lb.real : Lb → Bool
 | .box _ => true
 | .sp _ _ => true
 | _ => false
theorem Lb.same_iff {x y : Lb} (hx : x.real = true) : Lb.same x y = true ↔ x = y := by
 cases x <;> cases y <;> simp [Lb.same, Lb.real] at hx ⊢
theorem noTwice_nodup : (l : List Lb) → (∀ x ∈ l, x.real = true) → noTwice l = true → l.Nodup
 | [], _, _ => List.nodup_nil
 | x :: l, hr, h => by
   simp only [noTwice, Bool.and_eq_true, List.all_eq_true] at h; refine List.nodup_cons.2 ⟨fun hm => ?_, noTwice_nodup l (fun y hy => hr y (List.mem_cons_of_mem _ hy)) h.2⟩; have := h.1 x hm; rw [(Lb.same_iff (hr x List.mem_cons_self)).2 rfl] at this
   cases this
noncomputable def look : List (Lb × Lb) → Lb → Option Lb
 | [], _ => none
 | (x, y) :: t, l => have := Classical.propDecidable (x = l); if x = l then some y else look t l
theorem look_mem : (t : List (Lb × Lb)) → (t.map (·.1)).Nodup → {p : Lb × Lb} → p ∈ t → look t p.1 = some p.2
 | [], _, _, h => by simp at h
 | (x, y) :: t, hn, p, h => by
   unfold look; simp only [List.map_cons, List.nodup_cons] at hn
   by_cases e : x = p.1
   · rw [if_pos e]; rcases List.mem_cons.1 h with rfl | h
     · rfl
     · exact absurd (List.mem_map.2 ⟨p, h, e.symm⟩) hn.1
   · rw [if_neg e]; rcases List.mem_cons.1 h with rfl | h
     · exact absurd rfl e
     · exact look_mem t hn.2 h
theorem look_some : (t : List (Lb × Lb)) → {l y : Lb} → look t l = some y → (l, y) ∈ t
 | [], _, _, h => by simp [look] at h
 | (x, z) :: t, l, y, h => by
   unfold look at h
   by_cases e : x = l
   · rw [if_pos e] at h
     cases h
     subst e; exact List.mem_cons_self
   · rw [if_neg e] at h; exact List.mem_cons_of_mem _ (look_some t h)
def numb (f : Nat → Lb) : (j : Nat) → List (Option Lb) → List (Lb × Lb)
 | _, [] => []
 | j, some l :: ls => (l, f j) :: numb f (j + 1) ls
 | j, none :: ls => numb f (j + 1) ls
theorem numb_fst (f : Nat → Lb) : (j : Nat) → (ls : List (Option Lb)) → (numb f j ls).map (·.1) = somes ls
 | _, [] => rfl
 | j, some l :: ls => by simp [numb, somes, numb_fst f (j + 1) ls]
 | j, none :: ls => by simp [numb, somes, numb_fst f (j + 1) ls]
theorem numb_snd (f : Nat → Lb) : (j : Nat) → (ls : List (Option Lb)) → ∀ p ∈ numb f j ls, ∃ k, p.2 = f k
 | _, [], p, h => by simp [numb] at h
 | j, some l :: ls, p, h => by
   simp only [numb, List.mem_cons] at h; rcases h with rfl | h
   · exact ⟨j, rfl⟩
   · exact numb_snd f (j + 1) ls p h
 | j, none :: ls, p, h => numb_snd f (j + 1) ls p h
theorem numb_get (f : Nat → Lb) : (j : Nat) → (ls : List (Option Lb)) → ∀ k l, nth ls k = some (some l) → (l, f (j + k)) ∈ numb f j ls
 | _, [], k, l, h => by simp at h
 | j, x :: ls, 0, l, h => by
   simp only [nth, Option.some.injEq] at h; subst h; exact List.mem_cons_self
 | j, x :: ls, k + 1, l, h => by
   have := numb_get f (j + 1) ls k l h; rw [show j + (k + 1) = j + 1 + k by omega]
   cases x with
   | none => exact this
   | some x => exact List.mem_cons_of_mem _ this
theorem mem_somes {l : Lb} : {ls : List (Option Lb)} → l ∈ somes ls ↔ some l ∈ ls
 | [] => by simp [somes]
 | none :: ls => by simp [somes, mem_somes (ls := ls)]
 | some x :: ls => by simp [somes, mem_somes (ls := ls)]
def locC (c : Cz) : Option CV → Loc
 | some (.ref a j _ _) => c.lc a j
 | _ => .nil
def locOf (c : Cz) : V → Nat → Loc
 | .one (.ref a j _ _) => fun _ => c.lc a j
 | .agg cs => fun k => locC c cs[k]?
 | _ => fun _ => .nil
theorem expL_at {st : St} {own : Bool} : (cs : List CV) → {os : List OV} → {u : List (Option Lb)} → {r : List (Nat × Nat)} → expL st own cs = some (os, u, r) → ∀ (k : Nat) (o : OV), os[k]? = some o → ∃ x u' r', cs[k]? = some x ∧ expC st own x = some (o, u', r') ∧ nth u k = some u'
 | [], _, _, _, h => by
   simp only [expL, Option.some.injEq, Prod.mk.injEq] at h; obtain ⟨rfl, rfl, _⟩ := h; intro k o hk; simp at hk
 | x :: cs, os, u, r, h => by
   unfold expL at h
   cases hc : expC st own x with
   | none => simp [hc] at h
   | some p =>
     obtain ⟨o, u1, r1⟩ := p
     cases hq : expL st own cs with
     | none => simp [hc, hq] at h
     | some q =>
       obtain ⟨os', us, rs⟩ := q; simp only [hc, hq, Option.some.injEq, Prod.mk.injEq] at h; obtain ⟨rfl, rfl, _⟩ := h; intro k o' hk
       cases k with
       | zero =>
         simp only [List.getElem?_cons_zero, Option.some.injEq] at hk; subst hk; exact ⟨x, u1, r1, rfl, hc, rfl⟩
       | succ k =>
         obtain ⟨y, u', r', h1, h2, h3⟩ := expL_at cs hq k o' (by simpa using hk); exact ⟨y, u', r', by simpa using h1, h2, h3⟩
theorem expC_own {st : St} {own : Bool} {x : CV} {A : Arr} {u : Option Lb} {r : List (Nat × Nat)} (h : expC st own x = some (.own A, u, r)) : ∃ a j g w B, x = .ref a j g w ∧ arr? st a j g = some B ∧ A = { B with xs := w.app B.xs } ∧ u = some (.sp a j) ∧ B.own = true := by
 cases x with
 | ref a j g w =>
   unfold expC at h; simp only at h
   cases hA : arr? st a j g with
   | none => simp [hA] at h
   | some B =>
     simp only [hA] at h
     cases hm : B.md.hol with
     | true => simp [hm] at h
     | false =>
     simp only [hm, cond_false] at h
     cases hb : (own && B.own && (B.md.is .sh || w.isFull)) with
     | false => simp [hb] at h
     | true =>
       simp only [hb, cond_true, Option.some.injEq, Prod.mk.injEq] at h; obtain ⟨h1, rfl, _⟩ := h; injection h1 with h1; rw [Bool.and_eq_true, Bool.and_eq_true] at hb; exact ⟨a, j, g, w, B, rfl, hA, h1.symm, rfl, hb.1.2⟩
 | dref a j g e i k q ys =>
   unfold expC at h; simp only at h
   cases hA : arr? st a j g with
   | none => simp [hA] at h
   | some B =>
     simp only [hA] at h; obtain ⟨_, h⟩ := bif_some h; simp at h
 | rpt q y off => exact absurd (expC_rpt h).1 (by simp)
 | rptl q y off => exact absurd (expC_rptl h).1 (by simp)
 | _ => simp [expC] at h
theorem expC_nils {st : St} {own : Bool} {x : CV} {u : Option Lb} {r : List (Nat × Nat)} (h : expC st own x = some (.nils, u, r)) : x = .nils := by
 cases x with
 | ref a j g w =>
   unfold expC at h; simp only at h
   cases hA : arr? st a j g with
   | none => simp [hA] at h
   | some B =>
     simp only [hA] at h
     cases hm : B.md.hol with
     | true => simp [hm] at h
     | false =>
     simp only [hm, cond_false] at h
     cases hb : (own && B.own && (B.md.is .sh || w.isFull)) <;> simp [hb] at h
 | dref a j g e i k q ys =>
   unfold expC at h; simp only at h
   cases hA : arr? st a j g with
   | none => simp [hA] at h
   | some B =>
     simp only [hA] at h; obtain ⟨_, h⟩ := bif_some h; simp at h
 | nils => rfl
 | rpt q y off => exact absurd (expC_rpt h).1 (by simp)
 | rptl q y off => exact absurd (expC_rptl h).1 (by simp)
 | _ => simp [expC] at h
theorem expC_real {st : St} {own : Bool} {x : CV} {o : OV} {u : Option Lb} {r : List (Nat × Nat)} (h : expC st own x = some (o, u, r)) : ∀ l, u = some l → ∃ s j, l = .sp s j := by
 cases x with
 | ref a j g w =>
   unfold expC at h; simp only at h
   cases hA : arr? st a j g with
   | none => simp [hA] at h
   | some A =>
     simp only [hA] at h
     cases hm : A.md.hol with
     | true => simp [hm] at h
     | false =>
     simp only [hm, cond_false] at h
     cases hb : (own && A.own && (A.md.is .sh || w.isFull)) <;> simp only [hb, cond_true, cond_false, Option.some.injEq, Prod.mk.injEq] at h <;> obtain ⟨_, rfl, _⟩ := h <;> simp
 | dref a j g e i k q ys =>
   unfold expC at h; simp only at h
   cases hA : arr? st a j g with
   | none => simp [hA] at h
   | some B =>
     simp only [hA] at h; obtain ⟨_, h⟩ := bif_some h; simp only [Option.some.injEq, Prod.mk.injEq] at h; obtain ⟨_, rfl, _⟩ := h; simp
 | rpt q y off => obtain ⟨_, rfl, _⟩ := expC_rpt h; simp
 | rptl q y off => obtain ⟨_, rfl, _⟩ := expC_rptl h; simp
 | _ => simp [expC] at h <;> (try (obtain ⟨_, rfl, _⟩ := h; simp))
theorem expL_sp {st : St} {own : Bool} : (cs : List CV) → {os : List OV} → {u : List (Option Lb)} → {r : List (Nat × Nat)} → expL st own cs = some (os, u, r) → ∀ l ∈ somes u, ∃ s j, l = .sp s j
 | [], _, _, _, h => by
   simp only [expL, Option.some.injEq, Prod.mk.injEq] at h; obtain ⟨_, rfl, _⟩ := h; simp [somes]
 | x :: cs, os, u, r, h => by
   unfold expL at h
   cases hc : expC st own x with
   | none => simp [hc] at h
   | some p =>
     obtain ⟨o, u1, r1⟩ := p
     cases hq : expL st own cs with
     | none => simp [hc, hq] at h
     | some q =>
       obtain ⟨os', us, rs⟩ := q; simp only [hc, hq, Option.some.injEq, Prod.mk.injEq] at h; obtain ⟨_, rfl, _⟩ := h; intro l hl; rw [mem_somes] at hl; rcases List.mem_cons.1 hl with hl | hl
       · exact expC_real hc l hl.symm
       · exact expL_sp cs hq l (mem_somes.2 hl)
theorem expL_real {st : St} {own : Bool} (cs : List CV) {os : List OV} {u : List (Option Lb)} {r : List (Nat × Nat)} (h : expL st own cs = some (os, u, r)) : ∀ l ∈ somes u, l.real = true := by
 intro l hl; obtain ⟨s, j, rfl⟩ := expL_sp cs h l hl; rfl
def tabArg (i : Nat) (av : AV) (bx : List Lb) (u : List (Option Lb)) : List (Lb × Lb) :=
 bx.map (fun l => (l, .pbox i)) ++ numb (.pend i) 0 u
theorem tabArg_fst (i : Nat) (av : AV) (bx : List Lb) (u : List (Option Lb)) : (tabArg i av bx u).map (·.1) = bx ++ somes u := by
 unfold tabArg; rw [List.map_append, numb_fst, List.map_map]
 congr 1
 exact List.map_id bx
theorem tabArg_snd (i : Nat) (av : AV) (bx : List Lb) (u : List (Option Lb)) : ∀ p ∈ tabArg i av bx u, p.2.handed = true := by
 intro p hp; unfold tabArg at hp; rcases List.mem_append.1 hp with hp | hp
 · obtain ⟨l, _, rfl⟩ := List.mem_map.1 hp; rfl
 · obtain ⟨k, e⟩ := numb_snd _ _ _ p hp; rw [e]; rfl
theorem expArg_ok {w0 : World} {mu : Mu} {c : Cz} {st : St} {a : Act} {w : World} (h : Rel w0 mu c st a w) {m : Pm} {v : V} {x : Value} (hx : RelV c st w v x) {av : AV} {u q : List Lb} {r : List (Nat × Nat)} (he : expArg st m v = some (av, u, q, r)) (i : Nat) :
   (∀ l ∈ u, l.real = true) ∧ (∀ l ∈ q, l ∈ u) ∧ ∃ tb : List (Lb × Lb), tb.map (·.1) = u ∧ (∀ p ∈ tb, p.2.handed = true) ∧ ∀ ρ : Lb → Option Lb, (∀ p ∈ tb, ρ p.1 = some p.2) → (∀ p ∈ r, ρ (.sp p.1 p.2) = none) → HoldA (c.map ρ) w i (locOf c v) av x := by
 have vals : ∀ (own : Bool) (cs : List CV) (os : List OV) (us : List (Option Lb)) (rs : List (Nat × Nat)) (vs : List Value), RelL c st w cs vs → expL st own cs = some (os, us, rs) → (∀ l ∈ somes us, l.real = true) ∧
     ∀ ρ : Lb → Option Lb, (∀ p ∈ numb (.pend i) 0 us, ρ p.1 = some p.2) → (∀ p ∈ rs, ρ (.sp p.1 p.2) = none) → HoldL (c.map ρ) w (.pend i) 0 os vs := by
   intro own cs os us rs vs hl hq; refine ⟨expL_real cs hq, fun ρ hp hr => expL_ok h cs vs 0 hl hq (fun k l hk => ?_) hr⟩; have := hp _ (numb_get (.pend i) 0 us k l hk); simpa using this
 have single : ∀ (own : Bool) (cx : CV) (os : List OV) (us : List (Option Lb)) (rs : List (Nat × Nat)), RelC c st w cx x → expL st own [cx] = some (os, us, rs) → (∀ l ∈ somes us, l.real = true) ∧ (∀ l ∈ somes us, l ∈ somes us) ∧
     ∃ tb : List (Lb × Lb), tb.map (·.1) = somes us ∧ (∀ p ∈ tb, p.2.handed = true) ∧ ∀ ρ : Lb → Option Lb, (∀ p ∈ tb, ρ p.1 = some p.2) → (∀ p ∈ rs, ρ (.sp p.1 p.2) = none) → HoldA (c.map ρ) w i (locOf c (.one cx)) (.val false os) x := by
   intro own cx os us rs hl hq; obtain ⟨g1, g2⟩ := vals own [cx] os us rs [x] ⟨rfl, fun k y z hy hz => by
     cases k with
     | zero => simp at hy hz; subst hy hz; exact hl
     | succ k => simp at hy⟩ hq
   exact ⟨g1, fun _ h => h, tabArg i (.val false os) [] us, tabArg_fst _ _ _ _, tabArg_snd _ _ _ _, fun ρ hp hr => g2 ρ (fun p hp' => hp p (by simpa [tabArg] using hp')) hr⟩
 cases v with
 | tup _ => simp [expArg] at he
 | agg cs =>
   obtain ⟨vs, rfl, hl⟩ := hx; have other : (match expL st m.isOwn cs with | some (os, u, r) => some (AV.val true os, somes u, somes u, r) | none => none) = some (av, u, q, r) → (∀ l ∈ u, l.real = true) ∧ (∀ l ∈ q, l ∈ u) ∧
       ∃ tb : List (Lb × Lb), tb.map (·.1) = u ∧ (∀ p ∈ tb, p.2.handed = true) ∧ ∀ ρ : Lb → Option Lb, (∀ p ∈ tb, ρ p.1 = some p.2) → (∀ p ∈ r, ρ (.sp p.1 p.2) = none) → HoldA (c.map ρ) w i (locOf c (.agg cs)) av (.agg vs) := by
     intro he
     cases hq : expL st m.isOwn cs with
     | none => simp [hq] at he
     | some p =>
       obtain ⟨os, us, rs⟩ := p; simp only [hq, Option.some.injEq, Prod.mk.injEq] at he; obtain ⟨rfl, rfl, rfl, rfl⟩ := he; obtain ⟨g1, g2⟩ := vals _ _ _ _ _ _ hl hq; exact ⟨g1, fun _ h => h, tabArg i (.val true os) [] us, tabArg_fst _ _ _ _, tabArg_snd _ _ _ _, fun ρ hp hr => ⟨vs, rfl, g2 ρ (fun p hp' => hp p (by simpa [tabArg] using hp')) hr⟩⟩
   unfold expArg at he
   cases m with
   | shr => exact other he
   | own => exact other he
   | pick _ => exact other he
   | io => exact other he
   | lend =>
     simp only at he
     cases hq : expL st true cs with
     | none => simp [hq] at he
     | some p =>
       obtain ⟨os, us, rs⟩ := p; simp only [hq] at he; obtain ⟨hall, he1⟩ := bif_some he; simp only [Option.some.injEq, Prod.mk.injEq] at he1; obtain ⟨rfl, rfl, rfl, rfl⟩ := he1; obtain ⟨g1, g2⟩ := vals _ _ _ _ _ _ hl hq; refine ⟨g1, by simp, tabArg i (.val true os) [] us, tabArg_fst _ _ _ _, tabArg_snd _ _ _ _, fun ρ hp hr => ⟨vs, rfl, g2 ρ (fun p hp' => hp p (by simpa [tabArg] using hp')) hr, fun j o x ho hxj => ?_⟩⟩; obtain ⟨cx, u', r', k1, k2, k3⟩ := expL_at cs hq j o ho; show LocAt (c.map ρ) w i (fun k => locC c cs[k]?) j o x
       cases o with
       | nils =>
         have := expC_nils k2; subst this; show locC c cs[j]? = .nil; rw [k1]; rfl
       | own A =>
         obtain ⟨s, k, g, vw, B, rfl, hA, rfl, rfl, hB⟩ := expC_own k2; have hmem : CV.ref s k g vw ∈ cs := List.mem_of_getElem? k1; have hvw := List.all_eq_true.1 hall _ hmem; have hfull : vw = .full := by
           unfold lendC at hvw; rw [Bool.and_eq_true] at hvw
           cases vw with
           | full => rfl
           | «from» _ => cases hvw.1
           | sub _ _ => cases hvw.1
         subst hfull; have hxr := hl.2 j _ _ k1 hxj; have hs := hxr.2.2 B hA; have ha := rel_arr h hA; have hρ : ρ (.sp s k) = some (.pend i j) := hp (.sp s k, .pend i j) (by
           have := numb_get (.pend i) 0 us j (.sp s k) k3; simpa [tabArg] using this)
         have eloc : (fun k => locC c cs[k]?) j = c.lc s k := by
           show locC c cs[j]? = _; rw [k1]; rfl
         show OwnAt (c.map ρ) w (.pend i j) ((fun k => locC c cs[k]?) j) { B with xs := View.full.app B.xs } x; rw [eloc]; refine ⟨hxr.1, hs, hB, ?_⟩; show match c.lc s k with
           | .nil => B.xs = []
           | .at b off cap => _
         unfold ArrOk at ha
         cases hlc : c.lc s k with
         | nil => rw [hlc] at ha; exact ha
         | «at» b off cap =>
           rw [hlc] at ha; obtain ⟨h0, h2, h3, h4⟩ := ha; rw [hB] at h0; exact ⟨(Cz.map_own h0).trans hρ, h2, h3, h4.map hρ⟩
       | _ => trivial
 | one cx =>
   cases cx with
   | ptr b g off =>
     unfold expArg at he; simp only at he
     cases hb : box? st b g with
     | none => simp [hb] at he
     | some cs =>
       simp only [hb] at he
       cases hq : expL st true cs with
       | none => simp [hq] at he
       | some p =>
         obtain ⟨os, us, rs⟩ := p; simp only [hq] at he; obtain ⟨ho, he1⟩ := bif_some he; have ho1 := Nat.eq_of_beq_eq_true ho; simp only [Option.some.injEq, Prod.mk.injEq] at he1; obtain ⟨rfl, rfl, rfl, rfl⟩ := he1; subst ho1; obtain ⟨sl, k1, k2, k3⟩ := box?_some hb; obtain ⟨h1, vs, ty, h2, h3⟩ := h.boxes b sl cs k1 k3; obtain ⟨g1, g2⟩ := vals _ _ _ _ _ _ h3 hq; refine ⟨fun l hl => ?_, fun l hl => List.mem_cons_of_mem _ hl, tabArg i (.box os) [.box b] us, by rw [tabArg_fst]; rfl, tabArg_snd _ _ _ _, fun ρ hp hr => ⟨c.bx b, vs, ty, hx.2.2 cs hb, ?_, h2, g2 ρ (fun p hp' => hp p (List.mem_append_right _ hp')) hr⟩⟩
         · rcases List.mem_cons.1 hl with rfl | hl
           · rfl
           · exact g1 l hl
         · exact (Cz.map_own h1).trans (hp (.box b, .pbox i) (by simp [tabArg]))
   | ref s j g vw =>
     unfold expArg at he; have other : (match expL st m.isOwn [.ref s j g vw] with | some (os, u, r) => some (AV.val false os, somes u, somes u, r) | none => none) = some (av, u, q, r) → (∀ l ∈ u, l.real = true) ∧ (∀ l ∈ q, l ∈ u) ∧
         ∃ tb : List (Lb × Lb), tb.map (·.1) = u ∧ (∀ p ∈ tb, p.2.handed = true) ∧ ∀ ρ : Lb → Option Lb, (∀ p ∈ tb, ρ p.1 = some p.2) → (∀ p ∈ r, ρ (.sp p.1 p.2) = none) → HoldA (c.map ρ) w i (locOf c (.one (.ref s j g vw))) av x := by
       intro he
       cases hq : expL st m.isOwn [.ref s j g vw] with
       | none => simp [hq] at he
       | some p =>
         obtain ⟨os, us, rs⟩ := p; simp only [hq, Option.some.injEq, Prod.mk.injEq] at he; obtain ⟨rfl, rfl, rfl, rfl⟩ := he; exact single _ _ _ _ _ hx hq
     cases m with
     | shr => exact other he
     | own => exact other he
     | pick _ => exact other he
     | lend => exact other he
     | io =>
       cases vw with
       | full =>
         cases hA : arr? st s j g with
         | none => simp [hA] at he
         | some A =>
           simp only [hA] at he; obtain ⟨ho, he1⟩ := bif_some he; rw [Bool.and_eq_true] at ho; have ho := ho.1; simp only [Option.some.injEq, Prod.mk.injEq] at he1; obtain ⟨rfl, rfl, rfl, rfl⟩ := he1; refine ⟨by simp [Lb.real], by simp, [(.sp s j, .pend i 0)], rfl, by simp [Lb.handed], fun ρ hp _ => ?_⟩; have ha := rel_arr h hA; have hs := hx.2.2 A hA; have hρ : ρ (.sp s j) = some (.pend i 0) := hp (.sp s j, .pend i 0) (by simp); refine ⟨hx.1, hs, ho, ?_⟩; show match c.lc s j with
             | .nil => A.xs = []
             | .at b off cap => _
           unfold ArrOk at ha
           cases hlc : c.lc s j with
           | nil => rw [hlc] at ha; exact ha
           | «at» b off cap =>
             rw [hlc] at ha; obtain ⟨h0, h2, h3, h4⟩ := ha; rw [ho] at h0; exact ⟨(Cz.map_own h0).trans hρ, h2, h3, h4.map hρ⟩
       | «from» _ => simp at he
       | sub _ _ => simp at he
   | _ =>
     unfold expArg at he; simp only at he
     split at he
     · rename_i os us rs hq; simp only [Option.some.injEq, Prod.mk.injEq] at he; obtain ⟨rfl, rfl, rfl, rfl⟩ := he; exact single _ _ _ _ _ hx hq
     · cases he
theorem expAll_ok {w0 : World} {mu : Mu} {c : Cz} {st : St} {a : Act} {w : World} (h : Rel w0 mu c st a w) : (ms : List (Pm × V)) → (i : Nat) → (xs : List Value) → ms.length = xs.length → (∀ (k : Nat) (m : Pm × V) (x : Value), ms[k]? = some m → xs[k]? = some x → RelV c st w m.2 x) →
   {avs : List AV} → {u q : List Lb} → {r : List (Nat × Nat)} → expAll st ms = some (avs, u, q, r) →
   (∀ l ∈ u, l.real = true) ∧ (∀ l ∈ q, l ∈ u) ∧ ∃ tb : List (Lb × Lb), tb.map (·.1) = u ∧ (∀ p ∈ tb, p.2.handed = true) ∧ avs.length = ms.length ∧
     ∀ (ρ : Lb → Option Lb) (lc : Nat → Nat → Loc), (∀ (k : Nat) (m : Pm × V), ms[k]? = some m → lc (i + k) = locOf c m.2) → (∀ p ∈ tb, ρ p.1 = some p.2) → (∀ p ∈ r, ρ (.sp p.1 p.2) = none) → HoldAs (c.map ρ) w lc i avs xs
 | [], i, xs, hl, hx, avs, u, q, r, he => by
   simp only [expAll, Option.some.injEq, Prod.mk.injEq] at he; obtain ⟨rfl, rfl, rfl, rfl⟩ := he; simp at hl; exact ⟨by simp, by simp, [], rfl, by simp, rfl, fun ρ lc _ _ _ => List.length_eq_zero_iff.1 hl.symm⟩
 | (m, v) :: ms, i, xs, hl, hx, avs, u, q, r, he => by
   cases xs with
   | nil => simp at hl
   | cons x xs =>
     unfold expAll at he
     cases h1 : expArg st m v with
     | none => simp [h1] at he
     | some p1 =>
       obtain ⟨av, u1, q1, r1⟩ := p1
       cases h2 : expAll st ms with
       | none => simp [h1, h2] at he
       | some p2 =>
         obtain ⟨avs', u2, q2, r2⟩ := p2; simp only [h1, h2, Option.some.injEq, Prod.mk.injEq] at he; obtain ⟨rfl, rfl, rfl, rfl⟩ := he; obtain ⟨a1, a2, ta, a4, a5, a3⟩ := expArg_ok h (hx 0 (m, v) x rfl rfl) h1 i; obtain ⟨b1, b2, tb, b3, b4, b6, b5⟩ := expAll_ok h ms (i + 1) xs (by simpa using hl) (fun k m x hm hx' => hx (k + 1) m x (by simpa using hm) (by simpa using hx')) h2; refine ⟨fun l hl => ?_, fun l hl => ?_, ta ++ tb, by simp [a4, b3], fun p hp => ?_, by simp [b6], fun ρ lc hlc hp hr => ?_⟩
         · rcases List.mem_append.1 hl with hl | hl
           · exact a1 l hl
           · exact b1 l hl
         · rcases List.mem_append.1 hl with hl | hl
           · exact List.mem_append_left _ (a2 l hl)
           · exact List.mem_append_right _ (b2 l hl)
         · rcases List.mem_append.1 hp with hp | hp
           · exact a5 p hp
           · exact b4 p hp
         · refine ⟨x, xs, rfl, ?_, b5 ρ lc (fun k m hm => ?_) (fun p hp' => hp p (List.mem_append_right _ hp')) (fun p hp' => hr p (List.mem_append_right _ hp'))⟩
           · have := hlc 0 (m, v) rfl; simp only [Nat.add_zero] at this; rw [this]; exact a3 ρ (fun p hp' => hp p (List.mem_append_left _ hp')) (fun p hp' => hr p (List.mem_append_left _ hp'))
           · have := hlc (k + 1) m (by simpa using hm)
             rwa [show i + (k + 1) = i + 1 + k by omega] at this
end Go.TM
namespace Go.TM
open Go Go.RowKit
structure RelX (X : Lb → Prop) (w0 : World) (mu : Mu) (c : Cz) (st : St) (a : Act) (w : World) : Prop where
 regs : ∀ t, RelV c st w (getV st t) (a.eval (.tmp t))
 boxes : ∀ s sl cs, ¬ X (.box s) → nth st s = some sl → sl.box = some cs → BoxOk c st w s cs
 arrs : ∀ s j sl A, ¬ X (.sp s j) → nth st s = some sl → nth sl.arrs j = some (some A) → ArrOk c w s j A
 owned : ∀ b l, c.own b = some l → b < w.heap.size ∧ (l = .out ∨ w0.heap.size ≤ b ∨ mu.m b)
 free : ∀ b, b < w0.heap.size → c.own b = none → mu.m b ∨ mu.ok b
 kept : w.os = w0.os ∧ w.tape = w0.tape ∧ w.output = w0.output ∧ w0.heap.size ≤ w.heap.size
 old : ∀ k, k < w0.heap.size → ¬ mu.m k → w.heap[k]? = w0.heap[k]?
 plain : a.defers = []
 anch : ∀ p ∈ mu.an, AnOk c st p
theorem RelX.rel {w0 : World} {mu : Mu} {c : Cz} {st : St} {a : Act} {w : World} (h : RelX (fun _ => False) w0 mu c st a w) : Rel w0 mu c st a w :=
 ⟨h.regs, fun s sl cs => h.boxes s sl cs id, fun s j sl A => h.arrs s j sl A id, h.owned, h.free, h.kept, h.old, h.plain, h.anch⟩
structure Turns (ρ : Lb → Lb) : Prop where
 other : ∀ l, (l = .out ∨ l.real = true) → ρ l = l
def Cz.turn (c : Cz) (ρ : Lb → Lb) (bx : Nat → Nat) (lc : Nat → Nat → Loc) : Cz := { bx := bx, lc := lc, own := fun b => (c.own b).map ρ }
theorem Cz.turn_ok {c : Cz} {ρ : Lb → Lb} {bx : Nat → Nat} {lc : Nat → Nat → Loc} {b : Nat} : (c.turn ρ bx lc).ok b ↔ c.ok b := by
 unfold Cz.ok Cz.turn; simp
theorem stays_turn (c : Cz) (w : World) (ρ : Lb → Lb) (bx : Nat → Nat) (lc : Nat → Nat → Loc) : Stays w w c.ok (c.turn ρ bx lc).ok := ⟨Nat.le_refl _, fun _ _ _ => rfl, fun _ _ h => Cz.turn_ok.2 h⟩
theorem RelX.turn {X X' : Lb → Prop} {w0 : World} {mu : Mu} {c : Cz} {st st' : St} {a : Act} {w : World} (h : RelX X w0 mu c st a w) {ρ : Lb → Lb} {bx : Nat → Nat} {lc : Nat → Nat → Loc} (hρ : Turns ρ)
   (hfw : Fw c st w (c.turn ρ bx lc) st' w) (hregs : ∀ t, RelV (c.turn ρ bx lc) st' w (getV st' t) (a.eval (.tmp t)))
   (hbox : ∀ s sl cs, ¬ X' (.box s) → nth st' s = some sl → sl.box = some cs → BoxOk (c.turn ρ bx lc) st' w s cs)
   (harr : ∀ s j sl A, ¬ X' (.sp s j) → nth st' s = some sl → nth sl.arrs j = some (some A) → ArrOk (c.turn ρ bx lc) w s j A) : RelX X' w0 mu (c.turn ρ bx lc) st' a w where
 regs := hregs
 boxes := hbox
 arrs := harr
 owned b l hb := by
   unfold Cz.turn at hb; simp only [Option.map_eq_some_iff] at hb; obtain ⟨k, hk, e⟩ := hb; obtain ⟨h1, h2⟩ := h.owned b k hk; refine ⟨h1, h2.imp (fun e2 => ?_) id⟩; subst e2; rw [← e]; exact hρ.other _ (.inl rfl)
 free b hb h1 := h.free b hb (by unfold Cz.turn at h1; simpa using h1)
 kept := h.kept
 old := h.old
 plain := h.plain
 anch p hp := hfw.anch (h.anch p hp)
theorem nth_setArr (st : St) (s j : Nat) (A : Option Arr) (k : Nat) : ∃ f : Sl → Sl, (∀ x, (f x).v = x.v ∧ (f x).box = x.box ∧ (f x).bg = x.bg ∧ (f x).ag = x.ag ∧
     (∀ i, nth (f x).arrs i = if k = s ∧ i = j then (nth x.arrs i).map (fun _ => A) else nth x.arrs i) ∧ (f x).ep = if k = s then x.ep + 1 else x.ep) ∧ nth (setArr st s j A) k = (nth st k).map f := by
 unfold setArr
 by_cases e : k = s
 · subst e; refine ⟨fun s => { s with arrs := upd (fun _ => A) s.arrs j, ep := s.ep + 1 }, fun x => ⟨rfl, rfl, rfl, rfl, fun i => ?_, by simp⟩, nth_upd_same _ _ _⟩; simp only [nth_upd, true_and]
 · refine ⟨id, fun x => ⟨rfl, rfl, rfl, rfl, fun i => ?_, by simp [e]⟩, by rw [nth_upd_ne _ _ e]; simp⟩; simp [e]
theorem epO_setArr (st : St) (s j : Nat) (A : Option Arr) (t : Nat) : epO st t ≤ epO (setArr st s j A) t ∧ (epO (setArr st s j A) t = epO st t → t ≠ s ∨ nth st t = none) := by
 obtain ⟨f, hf, hk⟩ := nth_setArr st s j A t; unfold epO; rw [hk]
 cases nth st t with
 | none => simp
 | some x =>
   simp only [Option.map_some]; rw [(hf x).2.2.2.2.2]
   by_cases e : t = s
   · rw [if_pos e]; exact ⟨by omega, fun h => by omega⟩
   · rw [if_neg e]; exact ⟨Nat.le_refl _, fun _ => .inl e⟩
theorem getV_setArr (st : St) (s j : Nat) (A : Option Arr) (t : Nat) : getV (setArr st s j A) t = getV st t := by
 obtain ⟨f, hf, hk⟩ := nth_setArr st s j A t; unfold getV; rw [hk]
 cases nth st t with
 | none => rfl
 | some x => exact (hf x).1
theorem gen_setArr (st : St) (s j : Nat) (A : Option Arr) (t : Nat) : genA (setArr st s j A) t = genA st t ∧ genB (setArr st s j A) t = genB st t := by
 obtain ⟨f, hf, hk⟩ := nth_setArr st s j A t; unfold genA genB; rw [hk]
 cases nth st t with
 | none => exact ⟨rfl, rfl⟩
 | some x => exact ⟨(hf x).2.2.2.1, (hf x).2.2.1⟩
theorem box?_setArr (st : St) (s j : Nat) (A : Option Arr) (b g : Nat) : box? (setArr st s j A) b g = box? st b g := by
 obtain ⟨f, hf, hk⟩ := nth_setArr st s j A b; unfold box?; rw [hk]
 cases nth st b with
 | none => rfl
 | some x => simp [(hf x).2.1, (hf x).2.2.1]
theorem arr?_eq {st : St} {a j g : Nat} {sl : Sl} {A : Arr} (h1 : nth st a = some sl) (h2 : sl.ag = g) (h3 : nth sl.arrs j = some (some A)) : arr? st a j g = some A := by
 unfold arr?; rw [h1]; simp [h2, h3]
theorem fw_setArr {c : Cz} {st : St} {w : World} {s j g : Nat} {A : Option Arr} {A0 : Arr} (h0 : arr? st s j g = some A0 ∨ A = none) (hA : ∀ B, A = some B → B.r.width = A0.r.width ∧ B.xs.length = A0.xs.length) (ρ : Lb → Lb) :
   Fw c st w (c.turn ρ c.bx c.lc) (setArr st s j A) w where
 stays := stays_turn c w ρ _ _
 refs a' j' g' A' hg hA' := by
   obtain ⟨sl, k1, k2, k3⟩ := arr?_some hA'; obtain ⟨f, hf, hk⟩ := nth_setArr st s j A a'; rw [hk] at k1
   cases hx : nth st a' with
   | none => rw [hx] at k1; simp at k1
   | some x =>
     rw [hx] at k1; simp at k1; subst k1; rw [(hf x).2.2.2.1] at k2; rw [(hf x).2.2.2.2.1 j'] at k3
     by_cases e : a' = s ∧ j' = j
     · rw [if_pos e] at k3; obtain ⟨rfl, rfl⟩ := e
       cases hq : nth x.arrs j' with
       | none => simp [hq] at k3
       | some A1 =>
         simp only [hq, Option.map_some, Option.some.injEq] at k3; rcases h0 with h0 | h0
         · obtain ⟨sl, k1', k2', k3'⟩ := arr?_some h0; rw [hx] at k1'; cases k1'; obtain ⟨e1, e2⟩ := hA A' k3; refine ⟨A0, arr?_eq hx k2 k3', e1, e2, rfl, fun he => ?_⟩; rcases (epO_setArr st a' j' A a').2 he with h | h
           · exact absurd rfl h
           · rw [hx] at h; cases h
         · rw [h0] at k3; cases k3
     · rw [if_neg e] at k3; exact ⟨A', arr?_eq hx k2 k3, rfl, rfl, rfl, fun _ => ⟨rfl, fun _ _ _ _ => rfl⟩⟩
 bxs b g' cs _ h := ⟨⟨cs, by rwa [box?_setArr] at h⟩, rfl⟩
 gA a' := by rw [(gen_setArr st s j A a').1]; exact Nat.le_refl _
 gB a' := by rw [(gen_setArr st s j A a').2]; exact Nat.le_refl _
 gE a' := (epO_setArr st s j A a').1
theorem BoxOk.turn {c : Cz} {st st' : St} {w : World} {ρ : Lb → Lb} {bx : Nat → Nat} {lc : Nat → Nat → Loc} (hρ : Turns ρ) (hfw : Fw c st w (c.turn ρ bx lc) st' w) {s : Nat} {cs : List CV} (h : BoxOk c st w s cs) (hb : bx s = c.bx s) : BoxOk (c.turn ρ bx lc) st' w s cs := by
 refine h.go hfw hb ?_ rfl; unfold Cz.turn; simp only; rw [h.1]; simp [hρ.other (.box s) (.inr rfl)]
theorem ArrOk.turn {c : Cz} {w : World} {ρ : Lb → Lb} {bx : Nat → Nat} {lc : Nat → Nat → Loc} (hρ : Turns ρ) {s j : Nat} {A : Arr} (h : ArrOk c w s j A) (hl : lc s j = c.lc s j) : ArrOk (c.turn ρ bx lc) w s j A := by
 refine h.go (stays_turn c w ρ bx lc) hl (fun b h0 => ⟨rfl, ?_⟩); unfold Cz.turn; simp only; rw [h0]; simp [hρ.other (.sp s j) (.inr rfl)]
theorem turns_id : Turns id := ⟨fun _ _ => rfl⟩
theorem RelX.kill {X : Lb → Prop} {w0 : World} {mu : Mu} {c : Cz} {st : St} {a : Act} {w : World} (h : RelX X w0 mu c st a w) (s j : Nat) : RelX (fun l => X l ∧ l ≠ .sp s j) w0 mu (c.turn id c.bx c.lc) (setArr st s j none) a w ∧ Fw c st w (c.turn id c.bx c.lc) (setArr st s j none) w := by
 have hfw : Fw c st w (c.turn id c.bx c.lc) (setArr st s j none) w := fw_setArr (g := 0) (A0 := { r := .nil, own := false, xs := [] }) (.inr rfl) (fun _ e => by cases e) id; refine ⟨h.turn turns_id hfw (fun t => by rw [getV_setArr]; exact hfw.relV (h.regs t)) (fun k sl cs hX hs hb => ?_) (fun k i sl A hX hs hA => ?_), hfw⟩
 · obtain ⟨f, hf, hk⟩ := nth_setArr st s j none k; rw [hk] at hs
   cases hx : nth st k with
   | none => rw [hx] at hs; simp at hs
   | some x =>
     rw [hx] at hs; simp at hs; subst hs; rw [(hf x).2.1] at hb; exact (h.boxes k x cs (fun hX' => hX ⟨hX', by simp⟩) hx hb).turn turns_id hfw rfl
 · obtain ⟨f, hf, hk⟩ := nth_setArr st s j none k; rw [hk] at hs
   cases hx : nth st k with
   | none => rw [hx] at hs; simp at hs
   | some x =>
     rw [hx] at hs; simp at hs; subst hs; rw [(hf x).2.2.2.2.1 i] at hA
     by_cases e : k = s ∧ i = j
     · rw [if_pos e] at hA
       cases hq : nth x.arrs i <;> simp [hq] at hA
     · rw [if_neg e] at hA; exact (h.arrs k i x A (fun hX' => hX ⟨hX', by rintro e'; injection e' with e1 e2; exact e ⟨e1, e2⟩⟩) hx hA).turn turns_id rfl
theorem RelX.mono {X X' : Lb → Prop} {w0 : World} {mu : Mu} {c : Cz} {st : St} {a : Act} {w : World} (h : RelX X w0 mu c st a w) (hX : ∀ l, X l → X' l) : RelX X' w0 mu c st a w :=
 ⟨h.regs, fun s sl cs hn => h.boxes s sl cs (fun h => hn (hX _ h)), fun s j sl A hn => h.arrs s j sl A (fun h => hn (hX _ h)), h.owned, h.free, h.kept, h.old, h.plain, h.anch⟩
def turnIo (i z s j : Nat) : Lb → Lb
 | .pend x y => if x = i ∧ y = z then .sp s j else .pend x y
 | l => l
def turnBox (i b : Nat) : Lb → Lb
 | .pend x y => if x = i then .sp b y else .pend x y
 | .pbox x => if x = i then .box b else .pbox x
 | l => l
theorem turnIo_turns (i z s j : Nat) : Turns (turnIo i z s j) := ⟨fun l h => by cases l <;> simp [turnIo, Lb.real] at h ⊢⟩
theorem turnBox_turns (i b : Nat) : Turns (turnBox i b) := ⟨fun l h => by cases l <;> simp [turnBox, Lb.real] at h ⊢⟩
theorem OwnAt.arr {c : Cz} {w : World} {l : Lb} {lc' : Loc} {A : Arr} {v : Value} (h : OwnAt c w l lc' A v) {ρ : Lb → Lb} {bx : Nat → Nat} {lc : Nat → Nat → Loc} {s j : Nat} (hl : lc s j = lc') (hρ : ρ l = .sp s j) : ArrOk (c.turn ρ bx lc) w s j A := by
 obtain ⟨_, _, h3, h4⟩ := h; unfold ArrOk; show match lc s j with | .nil => _ | .at b off cap => _
 rw [hl]
 cases lc' with
 | nil => exact h4
 | «at» b off cap =>
   obtain ⟨g1, g2, g3, g4⟩ := h4; rw [h3]; have hq : ∀ k, c.own k = some l → (c.turn ρ bx lc).own k = some (.sp s j) := by
     intro k hk; show (c.own k).map ρ = _; rw [hk]; simp [hρ]
   exact ⟨hq b g1, g2, g3, g4.go (fun _ => stays_turn c w ρ bx lc) rfl (fun _ k hk => ⟨rfl, hq k hk⟩)⟩
theorem RelX.io {X : Lb → Prop} {w0 : World} {mu : Mu} {c : Cz} {st : St} {a : Act} {w : World} (h : RelX X w0 mu c st a w) {s j g i z : Nat} {A B : Arr} {v : Value} (hA : arr? st s j g = some A) (hw : B.r.width = A.r.width) (hn : B.xs.length = A.xs.length)
   (hB : OwnAt c w (.pend i z) (c.lc s j) B v) : RelX (fun l => X l ∧ l ≠ .sp s j) w0 mu (c.turn (turnIo i z s j) c.bx c.lc) (setArr st s j (some B)) a w ∧ Fw c st w (c.turn (turnIo i z s j) c.bx c.lc) (setArr st s j (some B)) w := by
 have hfw : Fw c st w (c.turn (turnIo i z s j) c.bx c.lc) (setArr st s j (some B)) w := fw_setArr (.inl hA) (fun _ e => by cases e; exact ⟨hw, hn⟩) _; have ht := turnIo_turns i z s j; refine ⟨h.turn ht hfw (fun t => by rw [getV_setArr]; exact hfw.relV (h.regs t)) (fun k sl cs hX hs hb => ?_) (fun k q sl A' hX hs hA' => ?_), hfw⟩
 · obtain ⟨f, hf, hk⟩ := nth_setArr st s j (some B) k; rw [hk] at hs
   cases hx : nth st k with
   | none => rw [hx] at hs; simp at hs
   | some x =>
     rw [hx] at hs; simp at hs; subst hs; rw [(hf x).2.1] at hb; exact (h.boxes k x cs (fun hX' => hX ⟨hX', by simp⟩) hx hb).turn ht hfw rfl
 · obtain ⟨f, hf, hk⟩ := nth_setArr st s j (some B) k; rw [hk] at hs
   cases hx : nth st k with
   | none => rw [hx] at hs; simp at hs
   | some x =>
     rw [hx] at hs; simp at hs; subst hs; rw [(hf x).2.2.2.2.1 q] at hA'
     by_cases e : k = s ∧ q = j
     · rw [if_pos e] at hA'; obtain ⟨rfl, rfl⟩ := e
       cases hq : nth x.arrs q with
       | none => simp [hq] at hA'
       | some A1 =>
         simp only [hq, Option.map_some, Option.some.injEq] at hA'; subst hA'; exact hB.arr rfl (by simp [turnIo])
     · rw [if_neg e] at hA'; exact (h.arrs k q x A' (fun hX' => hX ⟨hX', by rintro e'; injection e' with e1 e2; exact e ⟨e1, e2⟩⟩) hx hA').turn ht rfl
theorem HoldL.cells {c : Cz} {w : World} {f : Nat → Lb} : (os : List OV) → (j : Nat) → (vs : List Value) → HoldL c w f j os vs →
   ∃ lcs : Nat → Loc, (∀ k A, nth (arrsOfOV os) k = some (some A) → ∃ v, OwnAt c w (f (j + k)) (lcs (j + k)) A v) ∧
     ∀ (c2 : Cz) (st2 : St) (d g : Nat), (∀ b, c.ok b → c2.ok b) → (∀ k, k < os.length → c2.lc d (j + k) = lcs (j + k)) → (∀ k A, k < os.length → arr? st2 d (j + k) g = some A → nth (arrsOfOV os) k = some (some A)) → g ≤ genA st2 d → RelL c2 st2 w (cellOfOV d g j os) vs
 | [], j, vs, h => by
   subst h; exact ⟨fun _ => .nil, fun k A hA => by simp [arrsOfOV] at hA, fun _ _ _ _ _ _ _ _ => ⟨rfl, fun i x v hx => by simp [cellOfOV] at hx⟩⟩
 | o :: os, j, vs, h => by
   obtain ⟨v, l, rfl, hh, hcell⟩ : ∃ v l, vs = v :: l ∧ HoldL c w f (j + 1) os l ∧ ∃ lc, (∀ A, o.arr = some A → OwnAt c w (f j) lc A v) ∧ ∀ (c2 : Cz) (st2 : St) (d g : Nat), (∀ b, c.ok b → c2.ok b) → c2.lc d j = lc → (∀ A, arr? st2 d j g = some A → o.arr = some A) → g ≤ genA st2 d →
       ∃ x, cellOfOV d g j (o :: os) = x :: cellOfOV d g (j + 1) os ∧ RelC c2 st2 w x v := by
     cases o with
     | int k n => obtain ⟨l, h1, h2⟩ := h; exact ⟨_, l, h1, h2, .nil, (fun _ e => by cases e), fun c2 st2 d g _ _ _ _ => ⟨_, rfl, rfl⟩⟩
     | bool b => obtain ⟨l, h1, h2⟩ := h; exact ⟨_, l, h1, h2, .nil, (fun _ e => by cases e), fun c2 st2 d g _ _ _ _ => ⟨_, rfl, rfl⟩⟩
     | str b => obtain ⟨l, h1, h2⟩ := h; exact ⟨_, l, h1, h2, .nil, (fun _ e => by cases e), fun c2 st2 d g _ _ _ _ => ⟨_, rfl, rfl⟩⟩
     | nils => obtain ⟨l, h1, h2⟩ := h; exact ⟨_, l, h1, h2, .nil, (fun _ e => by cases e), fun c2 st2 d g _ _ _ _ => ⟨_, rfl, rfl⟩⟩
     | shr r xs =>
       obtain ⟨v, l, h1, h2, h3⟩ := h; exact ⟨v, l, h1, h3, .nil, (fun _ e => by cases e), fun c2 st2 d g hok _ _ _ => ⟨.shr r xs, rfl, RepTy.stays ⟨Nat.le_refl _, fun _ _ _ => rfl, fun b _ hb => hok b hb⟩ _ _ _ h2⟩⟩
     | rpt r xs =>
       obtain ⟨v, l, h1, ⟨b, o, e1, e2, e3, e4⟩, h3⟩ := h; exact ⟨v, l, h1, h3, .nil, (fun _ e => by cases e), fun c2 st2 d g hok _ _ _ => ⟨.rptl r xs 0, rfl, b, o, e1, e2, hok b e3, fun x hx => RepR.stays ⟨Nat.le_refl _, fun _ _ _ => rfl, fun b _ hb => hok b hb⟩ _ _ _ _ rfl (e4 x hx)⟩⟩
     | fn g rs xs =>
       obtain ⟨v, l, h1, h2, h3⟩ := h; exact ⟨v, l, h1, h3, .nil, (fun _ e => by cases e), fun c2 st2 d g' hok _ _ _ => ⟨.fn g rs xs, rfl, h2.stays ⟨Nat.le_refl _, fun _ _ _ => rfl, fun b _ hb => hok b hb⟩⟩⟩
     | own A =>
       obtain ⟨v, l, h1, ⟨lc, h2⟩, h3⟩ := h; refine ⟨v, l, h1, h3, lc, (fun A' e => by cases e; exact h2), fun c2 st2 d g _ hlc harr hg => ⟨.ref d j g .full, rfl, h2.1, hg, fun A' hA' => ?_⟩⟩; have e := harr A' hA'
       cases e
       rw [hlc]; exact h2.2.1
   obtain ⟨lc, q1, q2⟩ := hcell; obtain ⟨lcs, g1, g2⟩ := HoldL.cells os (j + 1) l hh; refine ⟨fun k => if k = j then lc else lcs k, fun k A' hA' => ?_, fun c2 st2 d g hok hlc harr hg => ?_⟩
   · cases k with
     | zero =>
       simp only [arrsOfOV, nth, Option.some.injEq] at hA'; exact ⟨v, by simpa using q1 A' hA'⟩
     | succ k =>
       have := g1 k A' hA'; rw [show j + 1 + k = j + (k + 1) by omega] at this; show ∃ v, OwnAt c w (f (j + (k + 1))) (if j + (k + 1) = j then lc else lcs (j + (k + 1))) A' v; rw [if_neg (by omega)]; exact this
   · have hrest := g2 c2 st2 d g hok (fun k hk => by
       have : c2.lc d (j + (k + 1)) = if j + (k + 1) = j then lc else lcs (j + (k + 1)) := hlc (k + 1) (by simp; exact hk)
       rw [if_neg (by omega)] at this; rw [show j + 1 + k = j + (k + 1) by omega]; exact this) (fun k A' hk hA' => by
         have := harr (k + 1) A' (by simp; exact hk) (by rw [show j + (k + 1) = j + 1 + k by omega]; exact hA'); exact this) hg
     have h0 : c2.lc d j = lc := by
       have := hlc 0 (by simp); simpa using this
     obtain ⟨x, e1, e2⟩ := q2 c2 st2 d g hok h0 (fun A hA => by
       have := harr 0 A (by simp) hA; simpa [arrsOfOV, nth] using this) hg
     rw [e1]; refine ⟨by simp [hrest.1], fun k y z hy hz => ?_⟩
     cases k with
     | zero =>
       simp only [List.getElem?_cons_zero, Option.some.injEq] at hy hz; subst hy hz; exact e2
     | succ k => exact hrest.2 k y z (by simpa using hy) (by simpa using hz)
theorem RelX.boxed {X : Lb → Prop} {w0 : World} {mu : Mu} {c : Cz} {st : St} {a : Act} {w : World} (h : RelX X w0 mu c st a w) {b g i : Nat} {s0 : Sl} {cs0 : List CV} {os : List OV} {v : Value} (hs0 : nth st b = some s0) (hbx : box? st b g = some cs0) (hv : v = .pointer (some ⟨c.bx b, 0, none⟩))
   (hB : BoxAt c w i os v) : ∃ c', RelX (fun l => X l ∧ l ≠ .box b) w0 mu c' (upd (fun s => { s with box := some (cellOfOV b (s0.ag + 1) 0 os), arrs := arrsOfOV os, ag := s0.ag + 1 }) st b) a w ∧
     Fw c st w c' (upd (fun s => { s with box := some (cellOfOV b (s0.ag + 1) 0 os), arrs := arrsOfOV os, ag := s0.ag + 1 }) st b) w ∧ Pass c c' (fun l => (∀ y, l ≠ .pend i y) ∧ l ≠ .pbox i) := by
 obtain ⟨blk, vs, ty, h1, h2, h3, h4⟩ := hB; obtain ⟨lcs, g1, g2⟩ := HoldL.cells os 0 _ h4; rw [hv] at h1; have e : c.bx b = blk := by injection h1 with h1; injection h1 with h1; injection h1
 obtain ⟨_, hs0', hg', hcs0⟩ := box?_some hbx; rw [hs0] at hs0'; cases hs0'
 let c' := c.turn (turnBox i b) c.bx (fun s j => if s = b then lcs j else c.lc s j)
 let st' := upd (fun s => { s with box := some (cellOfOV b (s0.ag + 1) 0 os), arrs := arrsOfOV os, ag := s0.ag + 1 }) st b
 have hn : ∀ s, nth st' s = if s = b then some { s0 with box := some (cellOfOV b (s0.ag + 1) 0 os), arrs := arrsOfOV os, ag := s0.ag + 1 } else nth st s := by
   intro s; show nth (upd _ st b) s = _; rw [nth_upd]
   by_cases e : s = b
   · subst e; simp [hs0]
   · simp [e]
 have hgen : genA st' b = s0.ag + 1 := by unfold genA; rw [hn]; simp
 have hgen0 : genA st b = s0.ag := by unfold genA; rw [hs0]
 have ht := turnBox_turns i b; have hfw : Fw c st w c' st' w := {
   stays := stays_turn c w _ _ _
   refs := fun a' j' g' A' hg hA' => by
     obtain ⟨sl, k1, k2, k3⟩ := arr?_some hA'; rw [hn] at k1
     by_cases e : a' = b
     · rw [if_pos e] at k1
       cases k1
       subst e; simp only at k2; omega
     · rw [if_neg e] at k1; exact ⟨A', arr?_eq k1 k2 k3, rfl, rfl, by show (if a' = b then _ else _) = _; rw [if_neg e], fun _ => ⟨rfl, fun _ _ _ _ => rfl⟩⟩
   bxs := fun b' g' cs' hg hcs' => by
     obtain ⟨sl, k1, k2, k3⟩ := box?_some hcs'; rw [hn] at k1
     by_cases e : b' = b
     · rw [if_pos e] at k1
       cases k1
       subst e; exact ⟨⟨cs0, by unfold box?; rw [hs0]; simp at k2; simp [k2, hcs0]⟩, rfl⟩
     · rw [if_neg e] at k1; exact ⟨⟨cs', by unfold box?; rw [k1]; simp [k2, k3]⟩, rfl⟩
   gA := fun a' => by
     by_cases e : a' = b
     · subst e; rw [hgen, hgen0]; omega
     · unfold genA; rw [hn, if_neg e]; exact Nat.le_refl _
   gB := fun a' => by
     by_cases e : a' = b
     · subst e; unfold genB; rw [hn, if_pos rfl, hs0]; exact Nat.le_refl _
     · unfold genB; rw [hn, if_neg e]; exact Nat.le_refl _
   gE := fun a' => by
     by_cases e : a' = b
     · subst e; unfold epO; rw [hn, if_pos rfl, hs0]; exact Nat.le_refl _
     · unfold epO; rw [hn, if_neg e]; exact Nat.le_refl _ }
 have harr? : ∀ k A, arr? st' b k (s0.ag + 1) = some A → nth (arrsOfOV os) k = some (some A) := by
   intro k A hA; obtain ⟨sl, k1, k2, k3⟩ := arr?_some hA; rw [hn, if_pos rfl] at k1
   cases k1
   exact k3
 refine ⟨c', h.turn ht hfw (fun t => ?_) (fun s sl cs hX hs hb => ?_) (fun s j sl A hX hs hA => ?_), hfw, ⟨fun k l hl hk => ?_, fun k hk => Cz.turn_ok.2 hk⟩⟩
 · have : getV st' t = getV st t := by
     unfold getV; rw [hn]
     by_cases e : t = b
     · subst e; rw [if_pos rfl, hs0]
     · rw [if_neg e]
   rw [this]; exact hfw.relV (h.regs t)
 · rw [hn] at hs
   by_cases e' : s = b
   · subst e'; rw [if_pos rfl] at hs
     cases hs
     simp only [Option.some.injEq] at hb; subst hb; refine ⟨?_, vs, ty, by show w.heap[c.bx s]? = _; rw [e]; exact h3, ?_⟩
     · show (c.own (c.bx s)).map (turnBox i s) = some (.box s); rw [e, h2]; simp [turnBox]
     · exact g2 c' st' s (s0.ag + 1) (fun b hb => Cz.turn_ok.2 hb) (fun k _ => by show (if s = s then _ else _) = _; rw [if_pos rfl]) (fun k A _ hA => harr? k A (by simpa using hA)) (by rw [hgen]; exact Nat.le_refl _)
   · rw [if_neg e'] at hs; exact (h.boxes s sl cs (fun hX' => hX ⟨hX', by rintro e2; injection e2 with e2; exact e' e2⟩) hs hb).turn ht hfw rfl
 · rw [hn] at hs
   by_cases e' : s = b
   · subst e'; rw [if_pos rfl] at hs
     cases hs
     obtain ⟨v', hv'⟩ := g1 j A hA; exact hv'.arr (by simp) (by simp [turnBox])
   · rw [if_neg e'] at hs; exact (h.arrs s j sl A (fun hX' => hX ⟨hX', by simp⟩) hs hA).turn ht (by simp [e'])
 · show (c.own k).map (turnBox i b) = _; rw [hk]; simp only [Option.map_some, Option.some.injEq]
   cases l with
   | pend x y => simp only [turnBox]; rw [if_neg]; rintro rfl; exact hl.1 y rfl
   | pbox x => simp only [turnBox]; rw [if_neg]; rintro rfl; exact hl.2 rfl
   | _ => rfl
end Go.TM
namespace Go.TM
open Go Go.RowKit
def Lb.keepH : Lb → Option Lb
 | .pend i j => some (.pend i j)
 | .pbox i => some (.pbox i)
 | .pres j => some (.pres j)
 | _ => none
noncomputable def Cz.merge (c c1 : Cz) (n : Nat) (m : Nat → Prop) : Cz :=
 { bx := c.bx, lc := c.lc, own := fun b => have := Classical.propDecidable (b < n ∧ ¬ m b); if b < n ∧ ¬ m b then c.own b else (c1.own b).bind Lb.keepH }
theorem Cz.merge_old {c c1 : Cz} {n : Nat} {m : Nat → Prop} {b : Nat} (h : b < n ∧ ¬ m b) : (c.merge c1 n m).own b = c.own b := by
 unfold Cz.merge; simp only; rw [if_pos h]
theorem Cz.merge_new {c c1 : Cz} {n : Nat} {m : Nat → Prop} {b : Nat} (h : ¬ (b < n ∧ ¬ m b)) : (c.merge c1 n m).own b = (c1.own b).bind Lb.keepH := by
 unfold Cz.merge; simp only; rw [if_neg h]
theorem nth_bump (st : St) (s : Nat) : nth (bump st) s = (nth st s).map fun x => { x with ep := x.ep + 1 } := by
 unfold bump; rw [nth_eq, nth_eq, List.getElem?_map]
theorem getV_bump (st : St) (t : Nat) : getV (bump st) t = getV st t := by
 unfold getV; rw [nth_bump]
 cases nth st t <;> rfl
theorem arr?_bump (st : St) (a j g : Nat) : arr? (bump st) a j g = arr? st a j g := by
 unfold arr?; rw [nth_bump]
 cases nth st a <;> rfl
theorem box?_bump (st : St) (b g : Nat) : box? (bump st) b g = box? st b g := by
 unfold box?; rw [nth_bump]
 cases nth st b <;> rfl
theorem gen_bump (st : St) (a : Nat) : genA (bump st) a = genA st a ∧ genB (bump st) a = genB st a := by
 unfold genA genB; rw [nth_bump]
 cases nth st a <;> exact ⟨rfl, rfl⟩
theorem epO_bump (st : St) (a : Nat) : epO st a ≤ epO (bump st) a ∧ (epO (bump st) a = epO st a → nth st a = none) := by
 unfold epO; rw [nth_bump]
 cases nth st a <;> simp
theorem Rel.moved {w0 : World} {mu : Mu} {c : Cz} {st : St} {a : Act} {w : World} (h : Rel w0 mu c st a w) {μ : Mu} {c1 : Cz} {w' : World} (hb : Bas w μ c1 w') {X : Lb → Prop} (hm : ∀ b, μ.m b → ∃ l, c.own b = some l ∧ X l) (hX : ∀ l, X l → l ≠ .out) :
   RelX X w0 mu (c.merge c1 w.heap.size μ.m) (bump st) a w' ∧ Fw c st w (c.merge c1 w.heap.size μ.m) (bump st) w' ∧ (∀ b l, c.own b = some l → ¬ X l → w'.heap[b]? = w.heap[b]? ∧ (c.merge c1 w.heap.size μ.m).own b = c.own b) ∧ (∀ b l, l.keepH = some l → c1.own b = some l → (c.merge c1 w.heap.size μ.m).own b = some l) ∧ ((∀ b, μ.ok b → c.own b = none) → ∀ b, c1.ok b → (c.merge c1 w.heap.size μ.m).ok b) := by
 have hsz : w.heap.size ≤ w'.heap.size := hb.kept.2.2.2; have hst : Stays w w' c.ok (c.merge c1 w.heap.size μ.m).ok := {
   size := hsz
   block := fun b hlt hok => hb.old b hlt (fun hm' => by
     obtain ⟨l, hl, _⟩ := hm b hm'; unfold Cz.ok at hok; rw [hok] at hl; cases hl)
   ok := fun b hlt hok => by
     unfold Cz.ok; rw [Cz.merge_old ⟨hlt, fun hm' => by
       obtain ⟨l, hl, _⟩ := hm b hm'; unfold Cz.ok at hok; rw [hok] at hl; cases hl⟩]
     exact hok }
 have hfw : Fw c st w (c.merge c1 w.heap.size μ.m) (bump st) w' := {
   stays := hst
   refs := fun a' j g A' _ hA => by
     rw [arr?_bump] at hA; refine ⟨A', hA, rfl, rfl, rfl, fun he => ?_⟩; have := (epO_bump st a').2 he; unfold arr? at hA; rw [this] at hA
     cases hA
   bxs := fun b g cs _ hc => ⟨⟨cs, by rwa [box?_bump] at hc⟩, rfl⟩
   gA := fun a' => by rw [(gen_bump st a').1]; exact Nat.le_refl _
   gB := fun a' => by rw [(gen_bump st a').2]; exact Nat.le_refl _
   gE := fun a' => (epO_bump st a').1 }
 have keep : ∀ b l, c.own b = some l → ¬ X l → w'.heap[b]? = w.heap[b]? ∧ (c.merge c1 w.heap.size μ.m).own b = c.own b := by
   intro b l hl hn; have hlt := (h.owned b l hl).1; have hm' : ¬ μ.m b := fun hm' => by
     obtain ⟨l', hl', hx⟩ := hm b hm'; rw [hl] at hl'; cases hl'; exact hn hx
   exact ⟨hb.old b hlt hm', Cz.merge_old ⟨hlt, hm'⟩⟩
 refine ⟨⟨fun t => by rw [getV_bump]; exact hfw.relV (h.regs t), fun s sl cs hn hs hbx => ?_, fun s j sl A hn hs hA => ?_, fun b l hl => ?_, fun b hlt hl => ?_, ?_, fun k hk hmu => ?_, h.plain, fun p hp => hfw.anch (h.anch p hp)⟩, hfw, keep, fun b l hk hl => ?_, fun hok b h1 => ?_⟩
 · rw [nth_bump] at hs; obtain ⟨sl0, hs0, rfl⟩ := Option.map_eq_some_iff.1 hs; have h0 := h.boxes s sl0 cs hs0 hbx; obtain ⟨k1, k2⟩ := keep _ _ h0.1 hn; exact h0.go hfw rfl k2 k1
 · rw [nth_bump] at hs; obtain ⟨sl0, hs0, rfl⟩ := Option.map_eq_some_iff.1 hs; have h0 := h.arrs s j sl0 A hs0 hA; exact h0.go hst rfl (fun b g1 => keep b _ g1 hn)
 · by_cases e : b < w.heap.size ∧ ¬ μ.m b
   · rw [Cz.merge_old e] at hl; have := h.owned b l hl; exact ⟨Nat.lt_of_lt_of_le this.1 hsz, this.2⟩
   · rw [Cz.merge_new e] at hl; obtain ⟨k, hk, e2⟩ := Option.bind_eq_some_iff.1 hl; obtain ⟨g1, g2⟩ := hb.owned b k hk; refine ⟨g1, .inr ?_⟩; have hk' : k ≠ .out := by rintro rfl; simp [Lb.keepH] at e2
     by_cases hlt : b < w.heap.size
     · have hm' : μ.m b := Classical.not_not.1 (fun h => e ⟨hlt, h⟩); obtain ⟨l', hl', hx⟩ := hm b hm'; rcases (h.owned b l' hl').2 with q | q
       · exact absurd q (hX l' hx)
       · exact q
     · have := h.kept.2.2.2; exact .inl (by omega)
 · by_cases e : b < w.heap.size ∧ ¬ μ.m b
   · rw [Cz.merge_old e] at hl; exact h.free b hlt hl
   · have hlt' : b < w.heap.size := Nat.lt_of_lt_of_le hlt h.kept.2.2.2; have hm' : μ.m b := Classical.not_not.1 (fun h => e ⟨hlt', h⟩); obtain ⟨l', hl', hx⟩ := hm b hm'; rcases (h.owned b l' hl').2 with q | q | q
     · exact absurd q (hX l' hx)
     · omega
     · exact .inl q
 · exact ⟨hb.kept.1.trans h.kept.1, hb.kept.2.1.trans h.kept.2.1, hb.kept.2.2.1.trans h.kept.2.2.1, Nat.le_trans h.kept.2.2.2 hsz⟩
 · have hlt' : k < w.heap.size := Nat.lt_of_lt_of_le hk h.kept.2.2.2; rw [hb.old k hlt' (fun hm' => ?_)]
   · exact h.old k hk hmu
   · obtain ⟨l', hl', hx⟩ := hm k hm'; rcases (h.owned k l' hl').2 with q | q | q
     · exact hX l' hx q
     · omega
     · exact hmu q
 · rw [Cz.merge_new (fun e => ?_), hl]
   · exact hk
   · rcases (hb.owned b l hl).2 with q | q | q
     · subst q; simp [Lb.keepH] at hk
     · omega
     · exact e.2 q
 · unfold Cz.ok at h1 ⊢
   by_cases e : b < w.heap.size ∧ ¬ μ.m b
   · rw [Cz.merge_old e]; rcases hb.free b e.1 h1 with q | q
     · exact absurd q e.2
     · exact hok b q
   · rw [Cz.merge_new e, h1]; rfl
theorem Cz.turn_id_own (c : Cz) (bx : Nat → Nat) (lc : Nat → Nat → Loc) : (c.turn id bx lc).own = c.own := by
 funext b
 unfold Cz.turn; simp
theorem killAll_ok {w0 : World} {mu : Mu} {a : Act} {w : World} : (ks : List Lb) → {X : Lb → Prop} → {c : Cz} → {st : St} → RelX X w0 mu c st a w →
   ∃ c', RelX (fun l => X l ∧ ∀ s j, Lb.sp s j ∈ ks → l ≠ .sp s j) w0 mu c' (killAll st ks) a w ∧ Fw c st w c' (killAll st ks) w ∧ c'.own = c.own
 | [], X, c, st, h => ⟨c, h.mono (fun l hl => ⟨hl, by simp⟩), Fw.refl c st w, rfl⟩
 | k :: ks, X, c, st, h => by
   have skip : killAll st (k :: ks) = killAll st ks → (∀ s j, k ≠ .sp s j) → ∃ c', RelX (fun l => X l ∧ ∀ s j, Lb.sp s j ∈ k :: ks → l ≠ .sp s j) w0 mu c' (killAll st (k :: ks)) a w ∧ Fw c st w c' (killAll st (k :: ks)) w ∧ c'.own = c.own := by
     intro e hk; obtain ⟨c', h1, h2, h3⟩ := killAll_ok ks h; rw [e]; refine ⟨c', h1.mono (fun l hl => ⟨hl.1, fun s j hm => ?_⟩), h2, h3⟩; rcases List.mem_cons.1 hm with e2 | hm
     · exact absurd e2.symm (hk s j)
     · exact hl.2 s j hm
   cases k with
   | sp s j =>
     obtain ⟨h1, h2⟩ := h.kill s j; obtain ⟨c', h3, h4, h5⟩ := killAll_ok ks h1; refine ⟨c', h3.mono (fun l hl => ⟨hl.1.1, fun s' j' hm => ?_⟩), h2.trans h4, h5.trans (Cz.turn_id_own _ _ _)⟩; rcases List.mem_cons.1 hm with e2 | hm
     · cases e2; exact hl.1.2
     · exact hl.2 s' j' hm
   | _ => exact skip rfl (by simp)
def exLb (m : Pm) : V → List Lb
 | .one (.ptr b _ _) => [.box b]
 | .one (.ref a j _ _) => match m with
   | .io => [.sp a j]
   | _ => []
 | .agg cs => match m with
   | .lend => cs.filterMap fun x => match x with | .ref a j _ _ => some (.sp a j) | _ => none
   | _ => []
 | _ => []
def ExpOk (st : St) (m : Pm × V) (av : AV) : Prop := ∃ u q r, expArg st m.1 m.2 = some (av, u, q, r)
theorem expL_ref {st : St} {own : Bool} : (cs : List CV) → {os : List OV} → {u : List (Option Lb)} → {r : List (Nat × Nat)} → expL st own cs = some (os, u, r) → ∀ (k : Nat) {a j g : Nat} , cs[k]? = some (.ref a j g .full) → os[k]? = (arr? st a j g).map fun A => bif own && A.own then .own A else .shr A.r A.xs
 | [], _, _, _, h => by intro k a j g hk; simp at hk
 | x :: cs, os, u, r, h => by
   unfold expL at h
   cases hc : expC st own x with
   | none => simp [hc] at h
   | some p =>
     obtain ⟨o, u1, r1⟩ := p
     cases hq : expL st own cs with
     | none => simp [hc, hq] at h
     | some q =>
       obtain ⟨os', us, rs⟩ := q; simp only [hc, hq, Option.some.injEq, Prod.mk.injEq] at h; obtain ⟨rfl, rfl, _⟩ := h; intro k a j g hk
       cases k with
       | succ k => simpa using expL_ref cs hq k (by simpa using hk)
       | zero =>
         simp only [List.getElem?_cons_zero, Option.some.injEq] at hk; subst hk; unfold expC at hc; simp only at hc
         cases hA : arr? st a j g with
         | none => simp [hA] at hc
         | some A =>
           simp only [hA] at hc
           cases hm : A.md.hol with
           | true => simp [hm] at hc
           | false =>
           simp only [hm, cond_false, View.isFull, Bool.or_true, Bool.and_true] at hc
           cases hb : (own && A.own) <;> simp only [hb, cond_true, cond_false, Option.some.injEq, Prod.mk.injEq] at hc <;> obtain ⟨rfl, _⟩ := hc <;> simp [hb, View.app]
theorem backL_ok {w0 wb : World} {mu : Mu} {a : Act} {w : World} {c0 : Cz} {st0 : St} {i : Nat} {As : List (Option Arr)} : (cs : List CV) → (j0 : Nat) → (us : List Value) → {X : Lb → Prop} → {c : Cz} → {st st' : St} → RelX X w0 mu c st a w → Fw c0 st0 wb c st w →
   (∀ (k : Nat) (x : CV) (v : Value), cs[k]? = some x → us[k]? = some v → RelC c0 st0 wb x v) →
   (∀ (k s j g : Nat) (vw : View), cs[k]? = some (.ref s j g vw) → ∃ A B u, arr? st0 s j g = some A ∧ nth As (j0 + k) = some (some B) ∧ us[k]? = some u ∧ B.r.width = A.r.width ∧ B.xs.length = A.xs.length ∧ OwnAt c w (.pend i (j0 + k)) (c0.lc s j) B u) →
   backL st j0 cs As = some st' →
   ∃ c', RelX (fun l => X l ∧ ∀ s j g vw, CV.ref s j g vw ∈ cs → l ≠ .sp s j) w0 mu c' st' a w ∧ Fw c0 st0 wb c' st' w ∧ Pass c c' (fun l => ∀ y, l ≠ .pend i y)
 | [], j0, us, X, c, st, st', h, hfw, _, _, hv => by
   simp only [backL, Option.some.injEq] at hv; subst hv; exact ⟨c, h.mono (fun l hl => ⟨hl, by simp⟩), hfw, ⟨fun _ _ _ h => h, fun _ h => h⟩⟩
 | x :: cs, j0, us, X, c, st, st', h, hfw, hr, hB, hv => by
   have skip : (∀ s j g vw, x ≠ .ref s j g vw) → backL st (j0 + 1) cs As = some st' → ∃ c', RelX (fun l => X l ∧ ∀ s j g vw, CV.ref s j g vw ∈ x :: cs → l ≠ .sp s j) w0 mu c' st' a w ∧ Fw c0 st0 wb c' st' w ∧ Pass c c' (fun l => ∀ y, l ≠ .pend i y) := by
     intro hx hv; obtain ⟨c', g1, g2, g3⟩ := backL_ok (i := i) cs (j0 + 1) us.tail h hfw (fun k y v hk hv => hr (k + 1) y v (by simpa using hk) (by simpa using hv)) (fun k s j g vw hk => by
       obtain ⟨A, B, u, q1, q2, q3, q4, q5, q6⟩ := hB (k + 1) s j g vw (by simpa using hk); refine ⟨A, B, u, q1, by rw [show j0 + 1 + k = j0 + (k + 1) by omega]; exact q2, by simpa using q3, q4, q5, by rw [show j0 + 1 + k = j0 + (k + 1) by omega]; exact q6⟩) hv
     refine ⟨c', g1.mono (fun l hl => ⟨hl.1, fun s j g vw hm => ?_⟩), g2, g3⟩; rcases List.mem_cons.1 hm with e | hm
     · exact absurd e.symm (hx s j g vw)
     · exact hl.2 s j g vw hm
   cases x with
   | ref s j g vw =>
     unfold backL at hv
     split at hv
     · rename_i B A1 hnB hA1; obtain ⟨A, B', u, q1, q2, q3, q4, q5, q6⟩ := hB 0 s j g vw rfl; rw [Nat.add_zero] at q2 q6; rw [hnB] at q2; simp only [Option.some.injEq] at q2; subst q2; have hr0 := hr 0 _ u rfl q3; obtain ⟨A0', p1, p2, p3, p4, _⟩ := hfw.refs s j g A1 hr0.2.1 hA1; rw [q1] at p1; cases p1; have hO' : OwnAt c w (.pend i j0) (c.lc s j) B u := by rw [p4]; exact q6
       obtain ⟨g1, g2⟩ := h.io hA1 (q4.trans p2.symm) (q5.trans p3.symm) hO'; have hpass : ∀ b l, l ≠ .pend i j0 → c.own b = some l → (c.turn (turnIo i j0 s j) c.bx c.lc).own b = some l := by
         intro b l hl hb; show (c.own b).map _ = _; rw [hb]; simp only [Option.map_some, Option.some.injEq]
         cases l with
         | pend x y => simp only [turnIo]; rw [if_neg]; rintro ⟨rfl, rfl⟩; exact hl rfl
         | _ => rfl
       obtain ⟨c', k1, k2, k3⟩ := backL_ok (i := i) cs (j0 + 1) us.tail g1 (hfw.trans g2) (fun k y v hk hv => hr (k + 1) y v (by simpa using hk) (by simpa using hv)) (fun k s' j' g' vw' hk => by
         obtain ⟨A, B, u, q1, q2, q3, q4, q5, q6⟩ := hB (k + 1) s' j' g' vw' (by simpa using hk); refine ⟨A, B, u, q1, by rw [show j0 + 1 + k = j0 + (k + 1) by omega]; exact q2, by simpa using q3, q4, q5, ?_⟩; rw [show j0 + 1 + k = j0 + (k + 1) by omega]; exact q6.pass (fun b hb => hpass b _ (by simp) hb) (.inl fun b hb => Cz.turn_ok.2 hb)) hv
       refine ⟨c', k1.mono (fun l hl => ⟨hl.1.1, fun s' j' g' vw' hm => ?_⟩), k2, ⟨fun b l hl hb => k3.pend b l hl (hpass b l (hl j0) hb), fun b hb => k3.ok b (Cz.turn_ok.2 hb)⟩⟩; rcases List.mem_cons.1 hm with e | hm
       · cases e; exact hl.1.2
       · exact hl.2 s' j' g' vw' hm
     · cases hv
   | _ => exact skip (by simp) hv
theorem backAll_ok {w0 wb : World} {mu : Mu} {a : Act} {w : World} {c0 : Cz} {st0 : St} {lc : Nat → Nat → Loc} : (ms : List (Pm × V)) → (i : Nat) → (avs : List AV) → (xs : List Value) → (es : List XV) → {X : Lb → Prop} → {c : Cz} → {st st' : St} → RelX X w0 mu c st a w → Fw c0 st0 wb c st w →
   (∀ (k : Nat) (m : Pm × V) (x : Value), ms[k]? = some m → xs[k]? = some x → RelV c0 st0 wb m.2 x) → (∀ (k : Nat) (m : Pm × V) (av : AV), ms[k]? = some m → avs[k]? = some av → ExpOk st0 m av) → ms.length = avs.length → ms.length = xs.length → (∀ (k : Nat) (m : Pm × V), ms[k]? = some m → lc (i + k) = locOf c0 m.2) →
   HoldX c w lc i avs xs es → backAll st ms es = some st' →
   ∃ c', RelX (fun l => X l ∧ ∀ m ∈ ms, l ∉ exLb m.1 m.2) w0 mu c' st' a w ∧ Fw c0 st0 wb c' st' w ∧ Pass c c' (fun l => (∃ j, l = .pres j) ∨ l.real = true)
 | [], i, avs, xs, es, X, c, st, st', h, hfw, _, _, _, _, _, hx, hv => by
   cases es with
   | nil =>
     simp only [backAll, Option.some.injEq] at hv; subst hv; exact ⟨c, h.mono (fun l hl => ⟨hl, by simp⟩), hfw, ⟨fun _ _ _ h => h, fun _ h => h⟩⟩
   | cons _ _ => simp [backAll] at hv
 | (m, v) :: ms, i, [], xs, es, X, c, st, st', h, hfw, hr, he, hn, hn2, hlc, hx, hv => by simp at hn
 | (m, v) :: ms, i, av :: avs, [], es, X, c, st, st', h, hfw, hr, he, hn, hn2, hlc, hx, hv => by simp at hn2
 | (m, v) :: ms, i, av :: avs, x :: xs, es, X, c, st, st', h, hfw, hr, he, hn, hn2, hlc, hx, hv => by
   have hr0 := hr 0 (m, v) x rfl rfl; obtain ⟨u, q, r, he0⟩ := he 0 (m, v) av rfl rfl; have hlc0 := hlc 0 (m, v) rfl; simp only [Nat.add_zero] at hlc0; have hr' : ∀ (k : Nat) (m : Pm × V) (x : Value), ms[k]? = some m → xs[k]? = some x → RelV c0 st0 wb m.2 x := fun k m' x' h1 h2 => hr (k + 1) m' x' (by simpa using h1) (by simpa using h2)
   have he' : ∀ (k : Nat) (m : Pm × V) (av : AV), ms[k]? = some m → avs[k]? = some av → ExpOk st0 m av := fun k m' x' h1 h2 => he (k + 1) m' x' (by simpa using h1) (by simpa using h2)
   have hlc' : ∀ (k : Nat) (m : Pm × V), ms[k]? = some m → lc (i + 1 + k) = locOf c0 m.2 := fun k m' h1 => by
     have := hlc (k + 1) m' (by simpa using h1)
     rwa [show i + (k + 1) = i + 1 + k by omega] at this
   have hn' : ms.length = avs.length := by simpa using hn
   have hn2' : ms.length = xs.length := by simpa using hn2
   unfold backAll at hv
   cases hb : backP st m v es with
   | none => simp [hb] at hv
   | some p =>
     obtain ⟨st1, es1⟩ := p; simp only [hb] at hv; have go : ∀ {X1 : Lb → Prop} {c1 : Cz}, RelX X1 w0 mu c1 st1 a w → Fw c0 st0 wb c1 st1 w → (∀ l, X1 l → X l ∧ l ∉ exLb m v) → HoldX c1 w lc (i + 1) avs xs es1 → Pass c c1 (fun l => (∃ j, l = .pres j) ∨ l.real = true) →
         ∃ c', RelX (fun l => X l ∧ ∀ m' ∈ (m, v) :: ms, l ∉ exLb m'.1 m'.2) w0 mu c' st' a w ∧ Fw c0 st0 wb c' st' w ∧ Pass c c' (fun l => (∃ j, l = .pres j) ∨ l.real = true) := by
       intro X1 c1 g1 g2 g3 g4 g5; obtain ⟨c', k1, k2, k3⟩ := backAll_ok ms (i + 1) avs xs es1 g1 g2 hr' he' hn' hn2' hlc' g4 hv; refine ⟨c', k1.mono (fun l hl => ⟨(g3 l hl.1).1, fun m' hm' => ?_⟩), k2, ⟨fun b l hl hb => k3.pend b l hl (g5.pend b l hl hb), fun b hb => k3.ok b (g5.ok b hb)⟩⟩; rcases List.mem_cons.1 hm' with rfl | hm'
       · exact (g3 l hl.1).2
       · exact hl.2 m' hm'
     have none_back : exLb m v = [] → st1 = st → es1 = es → (∃ ag os, av = .val ag os) → ∃ c', RelX (fun l => X l ∧ ∀ m' ∈ (m, v) :: ms, l ∉ exLb m'.1 m'.2) w0 mu c' st' a w ∧ Fw c0 st0 wb c' st' w ∧ Pass c c' (fun l => (∃ j, l = .pres j) ∨ l.real = true) := by
       rintro e1 rfl rfl ⟨ag, os, rfl⟩
       exact go h hfw (fun l hl => ⟨hl, by rw [e1]; simp⟩) hx ⟨fun _ _ _ h => h, fun _ h => h⟩
     cases v with
     | tup us => simp [expArg] at he0
     | agg cs =>
       have hval : ∀ u q r, (match expL st0 m.isOwn cs with | some (os, u, r) => some (AV.val true os, somes u, somes u, r) | none => none) = some (av, u, q, r) → ∃ ag os, av = .val ag os := by
         intro u q r he0
         cases hq : expL st0 m.isOwn cs with
         | none => simp [hq] at he0
         | some p =>
           obtain ⟨os, us, rs⟩ := p; simp only [hq, Option.some.injEq, Prod.mk.injEq] at he0; exact ⟨_, _, he0.1.symm⟩
       unfold expArg at he0
       cases m with
       | shr =>
         simp only [backP, Option.some.injEq, Prod.mk.injEq] at hb; exact none_back rfl hb.1.symm hb.2.symm (hval _ _ _ he0)
       | own =>
         simp only [backP, Option.some.injEq, Prod.mk.injEq] at hb; exact none_back rfl hb.1.symm hb.2.symm (hval _ _ _ he0)
       | pick _ =>
         simp only [backP, Option.some.injEq, Prod.mk.injEq] at hb; exact none_back rfl hb.1.symm hb.2.symm (hval _ _ _ he0)
       | io =>
         simp only [backP, Option.some.injEq, Prod.mk.injEq] at hb; exact none_back rfl hb.1.symm hb.2.symm (hval _ _ _ he0)
       | lend =>
         simp only at he0
         cases hq : expL st0 true cs with
         | none => simp [hq] at he0
         | some p =>
           obtain ⟨os, us, rs⟩ := p; simp only [hq] at he0; obtain ⟨hall, he1⟩ := bif_some he0; simp only [Option.some.injEq, Prod.mk.injEq] at he1; obtain ⟨rfl, _⟩ := he1; obtain ⟨As, l, rfl, ⟨us', rfl, hX⟩, hrest⟩ := hx; unfold backP at hb; obtain ⟨st2, hb2, e2⟩ := Option.map_eq_some_iff.1 hb; injection e2 with e2 e3; subst e2 e3; obtain ⟨vs0, e0, hl0⟩ := hr0; injection e0 with e0; subst e0; obtain ⟨c1, g1, g2, g3⟩ := backL_ok (i := i) (As := As) cs 0 us'.toList h hfw (fun k x v hk hv => hl0.2 k x v hk (by simpa using hv)) (fun k s j g vw hk => by
             have hmem := List.mem_of_getElem? hk; have hvw := List.all_eq_true.1 hall _ hmem; unfold lendC at hvw; rw [Bool.and_eq_true] at hvw
             cases hA : arr? st0 s j g with
             | none => rw [hA] at hvw; cases hvw.2
             | some A =>
               have hfull : vw = .full := by
                 cases vw with
                 | full => rfl
                 | «from» _ => cases hvw.1
                 | sub _ _ => cases hvw.1
               subst hfull; rw [hA] at hvw; have ho : os[k]? = some (.own A) := by
                 have := expL_ref cs hq k hk; rw [hA] at this; have hA2 : A.own = true := hvw.2; simpa [hA2] using this
               obtain ⟨B, u, k1, k2, k3, k4, k5⟩ := hX k A ho; refine ⟨A, B, u, rfl, by rw [Nat.zero_add]; exact k1, k2, k3, k4, ?_⟩; have : lc i k = c0.lc s j := by
                 rw [hlc0]; show locC c0 cs[k]? = _; rw [hk]; rfl
               rw [← this, Nat.zero_add]; exact k5) hb2
           refine go g1 g2 (fun l hl => ⟨hl.1, fun hm => ?_⟩) ?_ ⟨fun b l hl => g3.pend b l (hl.elim (by rintro ⟨j, rfl⟩; simp) (by intro h; cases l <;> simp_all [Lb.real])), g3.ok⟩
           · obtain ⟨x, hx1, hx2⟩ := List.mem_filterMap.1 hm
             cases x with
             | ref s j g vw => simp only [Option.some.injEq] at hx2; exact hl.2 s j g vw hx1 hx2.symm
             | _ => cases hx2
           · exact HoldX.pass avs (i + 1) (fun b k hk hb => g3.pend b _ (by simp) hb) (fun b k j hk hb => g3.pend b _ (by intro y; simp; omega) hb) xs _ (.inl g3.ok) hrest
     | one cx =>
       cases cx with
       | ptr b g off =>
         unfold backP at hb
         cases es with
         | nil => simp at hb
         | cons e es2 => cases e with
           | io _ => simp at hb
           | lend _ => simp at hb
           | box os =>
             simp only at hb
             split at hb
             · rename_i s0 cs0 hs0 hcs0; simp only [Option.some.injEq, Prod.mk.injEq] at hb; obtain ⟨rfl, rfl⟩ := hb; have hav : ∃ os0, av = .box os0 := by
                 unfold expArg at he0; simp only at he0
                 cases hq : box? st0 b g with
                 | none => simp [hq] at he0
                 | some cs =>
                   simp only [hq] at he0
                   cases hq2 : expL st0 true cs with
                   | none => simp [hq2] at he0
                   | some p =>
                     obtain ⟨os', us, rs⟩ := p; simp only [hq2] at he0; obtain ⟨_, he1⟩ := bif_some he0; simp only [Option.some.injEq, Prod.mk.injEq] at he1; exact ⟨_, he1.1.symm⟩
               obtain ⟨os0, rfl⟩ := hav; obtain ⟨os1, l, e1, hB, hrest⟩ := hx
               cases e1
               have hp := (hfw.relV (v := x) hr0); have e2 := hp.2.2 cs0 hcs0; have e3 : x = .pointer (some ⟨c.bx b, 0, none⟩) := by
                 obtain ⟨blk, vs, ty, q1, _⟩ := hB; rw [e2] at q1 ⊢; injection q1 with q1; injection q1 with q1; injection q1 with q1 q2; rw [q2]
               obtain ⟨c1, g1, g2, g3⟩ := h.boxed hs0 hcs0 e3 hB; refine go g1 (hfw.trans g2) (fun l hl => ⟨hl.1, by simp [exLb]; exact hl.2⟩) ?_ ⟨fun b l hl => g3.pend b l (hl.elim (by rintro ⟨j, rfl⟩; simp) (by intro h; cases l <;> simp_all [Lb.real])), g3.ok⟩; exact HoldX.pass avs (i + 1) (fun b k hk hb => g3.pend b _ (by constructor <;> simp; omega) hb) (fun b k j hk hb => g3.pend b _ (by constructor <;> simp; omega) hb) xs es2 (.inl g3.ok) hrest
             · cases hb
       | ref s j g vw =>
         have hval : m ≠ .io → ∃ ag os, av = .val ag os := by
           intro hm; unfold expArg at he0
           cases m with
           | io => exact absurd rfl hm
           | shr =>
             cases hq : expL st0 Pm.shr.isOwn [.ref s j g vw] with
             | none => simp [hq] at he0
             | some p => obtain ⟨os, us, rs⟩ := p; simp only [hq, Option.some.injEq, Prod.mk.injEq] at he0; exact ⟨_, _, he0.1.symm⟩
           | lend =>
             cases hq : expL st0 Pm.lend.isOwn [.ref s j g vw] with
             | none => simp [hq] at he0
             | some p => obtain ⟨os, us, rs⟩ := p; simp only [hq, Option.some.injEq, Prod.mk.injEq] at he0; exact ⟨_, _, he0.1.symm⟩
           | own =>
             cases hq : expL st0 Pm.own.isOwn [.ref s j g vw] with
             | none => simp [hq] at he0
             | some p => obtain ⟨os, us, rs⟩ := p; simp only [hq, Option.some.injEq, Prod.mk.injEq] at he0; exact ⟨_, _, he0.1.symm⟩
           | pick pl =>
             cases hq : expL st0 (Pm.pick pl).isOwn [.ref s j g vw] with
             | none => simp [hq] at he0
             | some p => obtain ⟨os, us, rs⟩ := p; simp only [hq, Option.some.injEq, Prod.mk.injEq] at he0; exact ⟨_, _, he0.1.symm⟩
         cases m with
         | shr =>
           simp only [backP, Option.some.injEq, Prod.mk.injEq] at hb; exact none_back rfl hb.1.symm hb.2.symm (hval (by simp))
         | lend =>
           simp only [backP, Option.some.injEq, Prod.mk.injEq] at hb; exact none_back rfl hb.1.symm hb.2.symm (hval (by simp))
         | own =>
           simp only [backP, Option.some.injEq, Prod.mk.injEq] at hb; exact none_back rfl hb.1.symm hb.2.symm (hval (by simp))
         | pick _ =>
           simp only [backP, Option.some.injEq, Prod.mk.injEq] at hb; exact none_back rfl hb.1.symm hb.2.symm (hval (by simp))
         | io =>
           unfold backP at hb; simp only at hb
           split at hb
           · rename_i B es2 A2 hA2; simp only [Option.some.injEq, Prod.mk.injEq] at hb; obtain ⟨rfl, rfl⟩ := hb; have hav : ∃ A0, av = .io A0 ∧ arr? st0 s j g = some A0 := by
               unfold expArg at he0
               cases vw with
               | full =>
                 cases hA : arr? st0 s j g with
                 | none => simp [hA] at he0
                 | some A =>
                   simp only [hA] at he0; obtain ⟨_, he1⟩ := bif_some he0; simp only [Option.some.injEq, Prod.mk.injEq] at he1; exact ⟨A, he1.1.symm, rfl⟩
               | «from» _ => simp at he0
               | sub _ _ => simp at he0
             obtain ⟨A0, rfl, hA0⟩ := hav; obtain ⟨B', l, e1, hw, hlen, hO, hrest⟩ := hx
             cases e1
             obtain ⟨A0', q1, q2, q3, q4, _⟩ := hfw.refs s j g A2 hr0.2.1 hA2; rw [hA0] at q1; cases q1; have hO' : OwnAt c w (.pend i 0) (c.lc s j) B x := by
               rw [q4]; have : lc i 0 = c0.lc s j := by rw [hlc0]; rfl
               rw [← this]; exact hO
             obtain ⟨g1, g2⟩ := h.io hA2 (hw.trans q2.symm) (hlen.trans q3.symm) hO'; have hpass : ∀ b l, (∀ y, l ≠ .pend i y) → c.own b = some l → (c.turn (turnIo i 0 s j) c.bx c.lc).own b = some l := by
               intro b l hl hb; show (c.own b).map _ = _; rw [hb]; simp only [Option.map_some, Option.some.injEq]
               cases l with
               | pend x y => simp only [turnIo]; rw [if_neg]; rintro ⟨rfl, _⟩; exact hl y rfl
               | _ => rfl
             refine go g1 (hfw.trans g2) (fun l hl => ⟨hl.1, by simp [exLb]; exact hl.2⟩) ?_ ⟨fun b l hl => hpass b l (hl.elim (by rintro ⟨j, rfl⟩; simp) (by intro h; cases l <;> simp_all [Lb.real])), fun b hb => Cz.turn_ok.2 hb⟩; exact HoldX.pass avs (i + 1) (fun b k hk hb => hpass b _ (by simp) hb) (fun b k j hk hb => hpass b _ (by intro y; simp; omega) hb) xs es2 (.inl fun b hb => Cz.turn_ok.2 hb) hrest
           · cases hb
       | _ =>
         simp only [backP, Option.some.injEq, Prod.mk.injEq] at hb; refine none_back rfl hb.1.symm hb.2.symm ?_; unfold expArg at he0; simp only at he0
         split at he0
         · simp only [Option.some.injEq, Prod.mk.injEq] at he0; exact ⟨_, _, he0.1.symm⟩
         · cases he0
end Go.TM
namespace Go.TM
open Go Go.RowKit
def turnRes (d : Nat) : Lb → Lb
 | .pres j => .sp d j
 | l => l
theorem turnRes_turns (d : Nat) : Turns (turnRes d) := ⟨fun l h => by cases l <;> simp [turnRes, Lb.real] at h ⊢⟩
theorem arrsOfOV_append : (os ps : List OV) → arrsOfOV (os ++ ps) = arrsOfOV os ++ arrsOfOV ps
 | [], ps => rfl
 | o :: os, ps => by simp [arrsOfOV, arrsOfOV_append os ps]
theorem arrsOfOV_length : (os : List OV) → (arrsOfOV os).length = os.length
 | [] => rfl
 | o :: os => by simp [arrsOfOV, arrsOfOV_length os]
theorem cell_one (d g j : Nat) (o : OV) : ∃ x, cellOfOV d g j [o] = [x] := by
 cases o <;> exact ⟨_, rfl⟩
theorem HoldR.vals {c : Cz} {w : World} : (rs : List RV) → (j : Nat) → (vs : List Value) → HoldR c w j rs vs →
   ∃ lcs : Nat → Loc, (∀ k A, nth (arrsOfOV (rs.flatMap RV.ovs)) k = some (some A) → ∃ v, OwnAt c w (.pres (j + k)) (lcs (j + k)) A v) ∧ rs.length = vs.length ∧ (∀ d g, (vsOfRVs d g j rs).length = rs.length) ∧
     ∀ (c2 : Cz) (st2 : St) (d g : Nat), (∀ b, c.ok b → c2.ok b) → (∀ k, k < (rs.flatMap RV.ovs).length → c2.lc d (j + k) = lcs (j + k)) → (∀ k A, k < (rs.flatMap RV.ovs).length → arr? st2 d (j + k) g = some A → nth (arrsOfOV (rs.flatMap RV.ovs)) k = some (some A)) → g ≤ genA st2 d →
       ∀ (k : Nat) (x : V) (v : Value), (vsOfRVs d g j rs)[k]? = some x → vs[k]? = some v → RelV1 c2 st2 w x v
 | [], j, vs, h => by
   subst h; exact ⟨fun _ => .nil, fun k A hA => by simp [arrsOfOV] at hA, rfl, fun _ _ => rfl, fun _ _ _ _ _ _ _ _ k x v hx => by simp [vsOfRVs] at hx⟩
 | r :: rs, j, vs, h => by
   obtain ⟨v, l, us, rfl, hL, hR, hV⟩ : ∃ (v : Value) (l us : List Value), vs = v :: l ∧ HoldL c w .pres j r.ovs us ∧ HoldR c w (j + r.ovs.length) rs l ∧
       (∀ (c2 : Cz) (st2 : St) (d g : Nat), RelL c2 st2 w (cellOfOV d g j r.ovs) us → RelV1 c2 st2 w (vOfRV d g j r) v) := by
     cases r with
     | one o =>
       obtain ⟨v, l, h1, h2, h3⟩ := h; refine ⟨v, l, [v], h1, h2, h3, fun c2 st2 d g hl => ?_⟩; unfold vOfRV; obtain ⟨x, hx⟩ := cell_one d g j o; show RelV1 c2 st2 w (match cellOfOV d g j [o] with | [c] => .one c | _ => .one .bad) v; have hl : RelL c2 st2 w (cellOfOV d g j [o]) [v] := hl; rw [hx] at hl ⊢; exact hl.2 0 x v rfl rfl
     | agg os =>
       obtain ⟨us, l, h1, h2, h3⟩ := h; exact ⟨.agg us, l, us.toList, h1, h2, h3, fun c2 st2 d g hl => ⟨us, rfl, hl⟩⟩
     | ptr os =>
       obtain ⟨v, l, h1, ⟨blk, us, ty, _, _, _, g4⟩, h3⟩ := h; exact ⟨v, l, .slice none 0 0 :: us.toList, h1, ⟨_, rfl, g4⟩, h3, fun _ _ _ _ _ => trivial⟩
   obtain ⟨l1, a1, a2⟩ := HoldL.cells r.ovs j us hL; obtain ⟨l2, b1, b2, b3, b4⟩ := HoldR.vals rs (j + r.ovs.length) l hR; have hflat : arrsOfOV ((r :: rs).flatMap RV.ovs) = arrsOfOV r.ovs ++ arrsOfOV (rs.flatMap RV.ovs) := by
     rw [List.flatMap_cons, arrsOfOV_append]
   refine ⟨fun k => if k < j + r.ovs.length then l1 k else l2 k, fun k A hA => ?_, by simp [b2], fun d g => by simp [vsOfRVs, b3], fun c2 st2 d g hok hlc harr hg k x v' hx hv' => ?_⟩
   · rw [hflat, nth_append, arrsOfOV_length] at hA
     by_cases e : k < r.ovs.length
     · rw [if_pos e] at hA; have := a1 k A hA; show ∃ v, OwnAt c w _ (if j + k < _ then _ else _) A v; rw [if_pos (by omega)]; exact this
     · rw [if_neg e] at hA; have := b1 _ A hA; rw [show j + r.ovs.length + (k - r.ovs.length) = j + k by omega] at this; show ∃ v, OwnAt c w _ (if j + k < _ then _ else _) A v; rw [if_neg (by omega)]; exact this
   · rw [hflat] at harr; rw [List.flatMap_cons, List.length_append] at hlc harr
     cases k with
     | zero =>
       simp only [vsOfRVs, List.getElem?_cons_zero, Option.some.injEq] at hx hv'; subst hx hv'; refine hV c2 st2 d g (a2 c2 st2 d g hok (fun k hk => ?_) (fun k A hk hA => ?_) hg)
       · have : c2.lc d (j + k) = if j + k < j + r.ovs.length then l1 (j + k) else l2 (j + k) := hlc k (by omega)
         rwa [if_pos (by omega)] at this
       · have := harr k A (by omega) hA
         rwa [nth_append, arrsOfOV_length, if_pos hk] at this
     | succ k =>
       refine b4 c2 st2 d g hok (fun k hk => ?_) (fun k A hk hA => ?_) hg k x v' (by simpa [vsOfRVs] using hx) (by simpa using hv')
       · have : c2.lc d (j + (r.ovs.length + k)) = if j + (r.ovs.length + k) < j + r.ovs.length then l1 (j + (r.ovs.length + k)) else l2 (j + (r.ovs.length + k)) := hlc (r.ovs.length + k) (by omega)
         rw [if_neg (by omega)] at this; rw [Nat.add_assoc]; exact this
       · rw [Nat.add_assoc] at hA; have := harr (r.ovs.length + k) A (by omega) hA
         rwa [nth_append, arrsOfOV_length, if_neg (by omega), Nat.add_sub_cancel_left] at this
def turnPtr (d : Nat) : Lb → Lb
 | .pres 0 => .box d
 | .pres (j + 1) => .sp d (j + 1)
 | l => l
theorem turnPtr_turns (d : Nat) : Turns (turnPtr d) := ⟨fun l h => by
 cases l with
 | pres j => cases j <;> simp [turnPtr, Lb.real] at h ⊢
 | _ => simp [turnPtr, Lb.real] at h ⊢⟩
theorem RelX.laidPtr {X : Lb → Prop} {w0 : World} {mu : Mu} {c : Cz} {st : St} {a : Act} {w : World} (h : RelX X w0 mu c st a w) {d : Nat} {s0 : Sl} {os : List OV} {v : Value} (hs0 : nth st d = some s0)
   (hv : ∃ blk us ty, v = .pointer (some ⟨blk, 0, none⟩) ∧ c.own blk = some (.pres 0) ∧ w.heap[blk]? = some (.cells us ty (0, 0)) ∧ HoldL c w .pres 1 os us.toList) (hd : d < a.tmps.size) :
   ∃ c', RelX X w0 mu c' (upd (fun s => { s with v := .one (.ptr d (s.bg + 1) 0), box := some (cellOfOV d (s.ag + 1) 1 os), bg := s.bg + 1, arrs := none :: arrsOfOV os, ag := s.ag + 1 }) st d) (a.put (some d) v) w ∧
     Fw c st w c' (upd (fun s => { s with v := .one (.ptr d (s.bg + 1) 0), box := some (cellOfOV d (s.ag + 1) 1 os), bg := s.bg + 1, arrs := none :: arrsOfOV os, ag := s.ag + 1 }) st d) w ∧ ∀ b l, l.real = true → c.own b = some l → c'.own b = some l := by
 obtain ⟨blk, us, ty, rfl, hown, hheap, hL⟩ := hv; obtain ⟨lcs, g1, g2⟩ := HoldL.cells os 1 _ hL
 let c' := c.turn (turnPtr d) (fun s => if s = d then blk else c.bx s) (fun s j => if s = d then lcs j else c.lc s j)
 let st' := upd (fun s => { s with v := .one (.ptr d (s.bg + 1) 0), box := some (cellOfOV d (s.ag + 1) 1 os), bg := s.bg + 1, arrs := none :: arrsOfOV os, ag := s.ag + 1 }) st d
 have hn : ∀ s, nth st' s = if s = d then some { s0 with v := .one (.ptr d (s0.bg + 1) 0), box := some (cellOfOV d (s0.ag + 1) 1 os), bg := s0.bg + 1, arrs := none :: arrsOfOV os, ag := s0.ag + 1 } else nth st s := by
   intro s; show nth (upd _ st d) s = _; rw [nth_upd]
   by_cases e : s = d
   · subst e; rw [if_pos rfl, if_pos rfl, hs0]; rfl
   · rw [if_neg e, if_neg e]
 have hgen : genA st' d = s0.ag + 1 := by unfold genA; rw [hn]; simp
 have hgen0 : genA st d = s0.ag := by unfold genA; rw [hs0]
 have hgenb : genB st' d = s0.bg + 1 := by unfold genB; rw [hn]; simp
 have hgenb0 : genB st d = s0.bg := by unfold genB; rw [hs0]
 have ht := turnPtr_turns d; have hfw : Fw c st w c' st' w := {
   stays := stays_turn c w _ _ _
   refs := fun a' j' g' A' hg hA' => by
     obtain ⟨sl, k1, k2, k3⟩ := arr?_some hA'; rw [hn] at k1
     by_cases e : a' = d
     · rw [if_pos e] at k1
       cases k1
       subst e; simp only at k2; omega
     · rw [if_neg e] at k1; exact ⟨A', arr?_eq k1 k2 k3, rfl, rfl, by show (if a' = d then _ else _) = _; rw [if_neg e], fun _ => ⟨rfl, fun _ _ _ _ => rfl⟩⟩
   bxs := fun b' g' cs' hg hcs' => by
     obtain ⟨sl, k1, k2, k3⟩ := box?_some hcs'; rw [hn] at k1
     by_cases e : b' = d
     · rw [if_pos e] at k1
       cases k1
       subst e; simp only at k2; omega
     · rw [if_neg e] at k1; exact ⟨⟨cs', by unfold box?; rw [k1]; simp [k2, k3]⟩, by show (if b' = d then _ else _) = _; rw [if_neg e]⟩
   gA := fun a' => by
     by_cases e : a' = d
     · subst e; rw [hgen, hgen0]; omega
     · unfold genA; rw [hn, if_neg e]; exact Nat.le_refl _
   gB := fun a' => by
     by_cases e : a' = d
     · subst e; rw [hgenb, hgenb0]; omega
     · unfold genB; rw [hn, if_neg e]; exact Nat.le_refl _
   gE := fun a' => by
     by_cases e : a' = d
     · subst e; unfold epO; rw [hn, if_pos rfl, hs0]; exact Nat.le_refl _
     · unfold epO; rw [hn, if_neg e]; exact Nat.le_refl _ }
 have harr? : ∀ k A, arr? st' d (1 + k) (s0.ag + 1) = some A → nth (arrsOfOV os) k = some (some A) := by
   intro k A hA; obtain ⟨sl, k1, k2, k3⟩ := arr?_some hA; rw [hn, if_pos rfl] at k1
   cases k1
   rw [show 1 + k = k + 1 by omega] at k3; exact k3
 have hreg : ∀ t, RelV c' st' w (getV st' t) ((a.put (some d) (.pointer (some ⟨blk, 0, none⟩))).eval (.tmp t)) := by
   intro t; rw [eval_put]
   by_cases e : t = d
   · subst e; rw [if_pos ⟨rfl, hd⟩]; have : getV st' t = .one (.ptr t (s0.bg + 1) 0) := by unfold getV; rw [hn, if_pos rfl]
     rw [this]; refine ⟨rfl, by rw [hgenb]; exact Nat.le_refl _, fun cs _ => ?_⟩; show _ = Value.pointer (some ⟨(if t = t then blk else c.bx t), 0, none⟩); rw [if_pos rfl]
   · rw [if_neg (by rintro ⟨e2, _⟩; exact e (Option.some.inj e2).symm)]; have : getV st' t = getV st t := by unfold getV; rw [hn, if_neg e]
     rw [this]; exact hfw.relV (h.regs t)
 refine ⟨c', ⟨hreg, fun s sl cs hX hs hb => ?_, fun s j sl A hX hs hA => ?_, fun b l hb => ?_, fun b hb h1 => h.free b hb (by unfold Cz.ok at *; simpa [c', Cz.turn] using h1), h.kept, h.old, by simpa [Act.put] using h.plain, fun p hp => hfw.anch (h.anch p hp)⟩, hfw, fun b l hl hb => ?_⟩
 case refine_4 =>
   show (c.own b).map (turnPtr d) = _; rw [hb]; simp [(turnPtr_turns d).other l (.inr hl)]
 · rw [hn] at hs
   by_cases e : s = d
   · subst e; rw [if_pos rfl] at hs
     cases hs
     simp only [Option.some.injEq] at hb; subst hb; refine ⟨?_, us, ty, by show w.heap[if s = s then blk else c.bx s]? = _; rw [if_pos rfl]; exact hheap, ?_⟩
     · show (c.own (if s = s then blk else c.bx s)).map (turnPtr s) = some (.box s); rw [if_pos rfl, hown]; rfl
     · exact g2 c' st' s (s0.ag + 1) (fun b hb => Cz.turn_ok.2 hb) (fun k _ => by show (if s = s then _ else _) = _; rw [if_pos rfl]) (fun k A _ hA => harr? k A hA) (by rw [hgen]; exact Nat.le_refl _)
   · rw [if_neg e] at hs; exact (h.boxes s sl cs hX hs hb).turn ht hfw (by show (if s = d then _ else _) = _; rw [if_neg e])
 · rw [hn] at hs
   by_cases e : s = d
   · subst e; rw [if_pos rfl] at hs
     cases hs
     cases j with
     | zero => simp [nth] at hA
     | succ j =>
       obtain ⟨v', hv'⟩ := g1 j A hA; rw [show 1 + j = j + 1 by omega] at hv'; exact hv'.arr (by simp) (by simp [turnPtr])
   · rw [if_neg e] at hs; exact (h.arrs s j sl A hX hs hA).turn ht (by simp [e])
 · simp only [c', Cz.turn, Option.map_eq_some_iff] at hb; obtain ⟨k, hk, e⟩ := hb; obtain ⟨h1, h2⟩ := h.owned b k hk; refine ⟨h1, h2.imp (fun e2 => ?_) id⟩; subst e2; rw [← e]; rfl
theorem layRes_other {st : St} {d : Nat} {outs : List RV} (h : ∀ os, outs ≠ [.ptr os]) : layRes st (some d) outs = match nth st d with
   | some s => some (upd (fun sl => { sl with v := (match vsOfRVs d (s.ag + 1) 0 outs with | [v] => v | vs => .tup vs), arrs := arrsOfOV (outs.flatMap RV.ovs), ag := s.ag + 1 }) st d)
   | none => none := by
 unfold layRes; simp only
 cases nth st d with
 | none => rfl
 | some s =>
   cases outs with
   | nil => rfl
   | cons r l => cases l with
     | cons _ _ => cases r <;> rfl
     | nil => cases r with
       | one o => rfl
       | agg os => rfl
       | ptr os => exact absurd rfl (h os)
theorem RelX.laid {X : Lb → Prop} {w0 : World} {mu : Mu} {c : Cz} {st : St} {a : Act} {w : World} (h : RelX X w0 mu c st a w) {d : Option Nat} {outs : List RV} {v : Value} (hv : HoldV c w outs v) {st' : St} (hl : layRes st d outs = some st') (hd : ∀ k, d = some k → k < a.tmps.size) :
   ∃ c', RelX X w0 mu c' st' (a.put d v) w ∧ Fw c st w c' st' w ∧ ∀ b l, l.real = true → c.own b = some l → c'.own b = some l := by
 cases d with
 | none =>
   cases outs with
   | nil =>
     simp only [layRes, Option.some.injEq] at hl; subst hl; exact ⟨c, h, Fw.refl c st w, fun _ _ _ h => h⟩
   | cons _ _ => simp [layRes] at hl
 | some d =>
   by_cases hp : ∃ os, outs = [.ptr os]
   · obtain ⟨os, rfl⟩ := hp; unfold layRes at hl; simp only at hl
     cases hs0 : nth st d with
     | none => simp [hs0] at hl
     | some s0 =>
       simp only [hs0, Option.some.injEq] at hl; subst hl; refine h.laidPtr hs0 ?_ (hd d rfl); rcases hv with ⟨r, h1, h2⟩ | ⟨h1, _⟩
       · simp only [List.cons.injEq, and_true] at h1; subst h1; obtain ⟨v', l, e1, h3, _⟩ := h2; simp only [List.cons.injEq] at e1; rw [e1.1]; exact h3
       · exact absurd rfl h1
   rw [layRes_other (fun os e => hp ⟨os, e⟩)] at hl
   cases hs0 : nth st d with
   | none => simp [hs0] at hl
   | some s0 =>
     simp only [hs0, Option.some.injEq] at hl; obtain ⟨vs, hR, hVV⟩ : ∃ vs, HoldR c w 0 outs vs ∧ ∀ (c2 : Cz) (st2 : St) (g : Nat), (vsOfRVs d g 0 outs).length = vs.length → (∀ (k : Nat) (x : V) (u : Value), (vsOfRVs d g 0 outs)[k]? = some x → vs[k]? = some u → RelV1 c2 st2 w x u) →
         RelV c2 st2 w (match vsOfRVs d g 0 outs with | [v] => v | vs => .tup vs) v := by
       rcases hv with ⟨r, rfl, h2⟩ | ⟨h1, vs, rfl, h2⟩
       · refine ⟨[v], h2, fun c2 st2 g hlen hrel => ?_⟩; exact relV_of1 (hrel 0 _ v rfl rfl)
       · refine ⟨vs.toList, h2, fun c2 st2 g hlen hrel => ?_⟩; have tupled : RelV c2 st2 w (.tup (vsOfRVs d g 0 outs)) (.tuple vs) := ⟨vs, rfl, by simpa using hlen, fun i x y hx hy => hrel i x y hx (by simpa using hy)⟩
         split
         · rename_i x hx; obtain ⟨_, _, _, b3, _⟩ := HoldR.vals outs 0 vs.toList h2; have := b3 d g; rw [hx] at this; exact absurd this.symm h1
         · exact tupled
     obtain ⟨lcs, g1, g2, g3, g4⟩ := HoldR.vals outs 0 vs hR
     let c' := c.turn (turnRes d) c.bx (fun s j => if s = d then lcs j else c.lc s j)
     let V0 := (match vsOfRVs d (s0.ag + 1) 0 outs with | [v] => v | vs => .tup vs)
     have hn : ∀ s, nth st' s = if s = d then some { s0 with v := V0, arrs := arrsOfOV (outs.flatMap RV.ovs), ag := s0.ag + 1 } else nth st s := by
       intro s; rw [← hl, nth_upd]
       by_cases e : s = d
       · subst e; rw [if_pos rfl, if_pos rfl, hs0]; rfl
       · rw [if_neg e, if_neg e]
     have hgen : genA st' d = s0.ag + 1 := by unfold genA; rw [hn]; simp
     have hgen0 : genA st d = s0.ag := by unfold genA; rw [hs0]
     have ht := turnRes_turns d; have hfw : Fw c st w c' st' w := {
       stays := stays_turn c w _ _ _
       refs := fun a' j' g' A' hg hA' => by
         obtain ⟨sl, k1, k2, k3⟩ := arr?_some hA'; rw [hn] at k1
         by_cases e : a' = d
         · rw [if_pos e] at k1
           cases k1
           subst e; simp only at k2; omega
         · rw [if_neg e] at k1; exact ⟨A', arr?_eq k1 k2 k3, rfl, rfl, by show (if a' = d then _ else _) = _; rw [if_neg e], fun _ => ⟨rfl, fun _ _ _ _ => rfl⟩⟩
       bxs := fun b' g' cs' hg hcs' => by
         obtain ⟨sl, k1, k2, k3⟩ := box?_some hcs'; rw [hn] at k1
         by_cases e : b' = d
         · rw [if_pos e] at k1
           cases k1
           subst e; exact ⟨⟨cs', by unfold box?; rw [hs0]; simp at k2 k3; simp [k2, k3]⟩, rfl⟩
         · rw [if_neg e] at k1; exact ⟨⟨cs', by unfold box?; rw [k1]; simp [k2, k3]⟩, rfl⟩
       gA := fun a' => by
         by_cases e : a' = d
         · subst e; rw [hgen, hgen0]; omega
         · unfold genA; rw [hn, if_neg e]; exact Nat.le_refl _
       gB := fun a' => by
         by_cases e : a' = d
         · subst e; unfold genB; rw [hn, if_pos rfl, hs0]; exact Nat.le_refl _
         · unfold genB; rw [hn, if_neg e]; exact Nat.le_refl _
       gE := fun a' => by
         by_cases e : a' = d
         · subst e; unfold epO; rw [hn, if_pos rfl, hs0]; exact Nat.le_refl _
         · unfold epO; rw [hn, if_neg e]; exact Nat.le_refl _ }
     have harr? : ∀ k A, arr? st' d k (s0.ag + 1) = some A → nth (arrsOfOV (outs.flatMap RV.ovs)) k = some (some A) := by
       intro k A hA; obtain ⟨sl, k1, k2, k3⟩ := arr?_some hA; rw [hn, if_pos rfl] at k1
       cases k1
       exact k3
     have hreg : ∀ t, RelV c' st' w (getV st' t) ((a.put (some d) v).eval (.tmp t)) := by
       intro t; rw [eval_put]
       by_cases e : t = d
       · subst e; rw [if_pos ⟨rfl, hd t rfl⟩]; have : getV st' t = V0 := by unfold getV; rw [hn, if_pos rfl]
         rw [this]; refine hVV c' st' (s0.ag + 1) (by rw [g3, g2]) (g4 c' st' t (s0.ag + 1) (fun b hb => Cz.turn_ok.2 hb) (fun k _ => ?_) (fun k A _ hA => harr? k A (by simpa using hA)) (by rw [hgen]; exact Nat.le_refl _)); show (if t = t then _ else _) = _; rw [if_pos rfl]
       · rw [if_neg (by rintro ⟨e2, _⟩; exact e (Option.some.inj e2).symm)]; have : getV st' t = getV st t := by unfold getV; rw [hn, if_neg e]
         rw [this]; exact hfw.relV (h.regs t)
     refine ⟨c', ⟨hreg, fun s sl cs hX hs hb => ?_, fun s j sl A hX hs hA => ?_, fun b l hb => ?_, fun b hb h1 => h.free b hb (by unfold Cz.ok at *; simpa [c', Cz.turn] using h1), h.kept, h.old, by simpa [Act.put] using h.plain, fun p hp => hfw.anch (h.anch p hp)⟩, hfw, fun b l hl hb => ?_⟩
     case refine_4 =>
       show (c.own b).map (turnRes d) = _; rw [hb]; simp [(turnRes_turns d).other l (.inr hl)]
     · rw [hn] at hs
       by_cases e : s = d
       · subst e; rw [if_pos rfl] at hs
         cases hs
         exact (h.boxes s s0 cs hX hs0 hb).turn ht hfw rfl
       · rw [if_neg e] at hs; exact (h.boxes s sl cs hX hs hb).turn ht hfw rfl
     · rw [hn] at hs
       by_cases e : s = d
       · subst e; rw [if_pos rfl] at hs
         cases hs
         obtain ⟨v', hv'⟩ := g1 j A hA; exact hv'.arr (by simp) (by simp [turnRes])
       · rw [if_neg e] at hs; exact (h.arrs s j sl A hX hs hA).turn ht (by simp [e])
     · simp only [c', Cz.turn, Option.map_eq_some_iff] at hb; obtain ⟨k, hk, e⟩ := hb; obtain ⟨h1, h2⟩ := h.owned b k hk; refine ⟨h1, h2.imp (fun e2 => ?_) id⟩; subst e2; rw [← e]; rfl
end Go.TM
