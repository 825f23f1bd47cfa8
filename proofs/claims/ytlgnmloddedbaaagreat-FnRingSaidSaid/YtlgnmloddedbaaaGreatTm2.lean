/- A machine over trees: an evaluator of the code, and that what it finds is so; part 2. -/
import Derived.Test.YtlgnmloddedbaaaGreatTm1
import Derived.Laws.MakeOwn
import Derived.Great.BuildSlice
import Derived.Laws.Cover3
import Derived.Laws.BytesString
import Derived.Tactics
set_option linter.unusedSimpArgs false
set_option linter.unusedVariables false
namespace Go.TM
open Go Go.RowKit
theorem uD {b : Bool} {t e : N} {y : St} (h : (N.br b t e).val = some y) : (b = true ∧ t.val = some y) ∨ (b = false ∧ e.val = some y) := by
 cases b
 · exact .inr ⟨rfl, h⟩
 · exact .inl ⟨rfl, h⟩
theorem eZ {b : Bool} {t : N} {y : St} (h : (N.br b t N.fail).val = some y) : b = true ∧ t.val = some y := by
 rcases uD h with h | ⟨_, h⟩
 · exact h
 · simp [N.val] at h
theorem DW {st : St} {y : V} {b k : Nat} {B : gr} (h : MS st y = some (b, k, B)) : ∃ g, y = .one (.ref b k g .full) ∧ aQ st b k g = some B ∧ B.own = true ∧ B.md = .dp := by
 unfold MS at h
 split at h
 · rename_i a' j' g
   cases hA : aQ st a' j' g with
   | none => rw [hA] at h; cases h
   | some A =>
     rw [hA] at h; obtain ⟨h1, h2⟩ := aH h; rw [Bool.and_eq_true] at h1; simp only [Option.some.injEq, Prod.mk.injEq] at h2; obtain ⟨rfl, rfl, rfl⟩ := h2; exact ⟨g, rfl, hA, h1.1, Md.lg.1 h1.2⟩
 · cases h
theorem Ac {c : Cz} {w : World} {s j : Nat} {A : gr} (h : bM c w s j A) (ho : A.own = true) (hm : A.md = .dp) {v : Value} (hv : iB (c.lc s j) A.r.width 0 A.xs.length v) :
   ∃ (g : Nat → List Nat) (vs : List Value) (xb : Option Nat), cR w (fun p k => c.own k = some (.sp s j) ∧ g k = p) A.r 0 vs A.xs ∧ (∀ b, xb = some b → c.own b = some (.sp s j) ∧ g b = []) ∧
     ((xb = none ∧ v = .slice none 0 0 ∧ A.xs.length = 0) ∨ ∃ b off lo cap n ad cur te, xb = some b ∧ v = .slice (some ad) A.xs.length n ∧ A.xs.length ≤ n ∧ lo + n ≤ cap ∧ (n ≠ 0 → ad = ⟨b, off + lo * A.r.width, none⟩) ∧
     w.heap[b]? = some (.cells cur te (0, 0)) ∧ off + cap * A.r.width ≤ cur.size ∧ w.rangeAt b (off + lo * A.r.width) vs) := by
 unfold bM at h
 cases hl : c.lc s j with
 | nil =>
   rw [hl] at h hv; refine ⟨fun _ => [], [], none, by rw [h]; rfl, (fun b e => by cases e), .inl ⟨rfl, hv.1, hv.2⟩⟩
 | «at» b off cap =>
   rw [hl] at h hv; obtain ⟨h0, h2, ⟨cur, te, h3, h4⟩, h5⟩ := h; rw [ho] at h0; unfold bn at h5; rw [hm] at h5; obtain ⟨g, g1, g2⟩ := h5; obtain ⟨ad, n, e, k1, k2, k3⟩ := hv; obtain ⟨vs, q1, q2⟩ := Ab b off 0 A.xs (fun i x hx => by rw [Nat.zero_add]; exact g2 i x hx); exact ⟨g, vs, some b, q2, (fun b' e => by cases e; exact ⟨h0, g1⟩), .inr ⟨b, off, 0, cap, n, ad, cur, te, rfl, e, k1, by omega, k3, h3, h4, by simpa using q1⟩⟩
def R9 (n : Nat) : List Nat → List Nat
 | [] => []
 | i :: l => (i + n) :: l
theorem Gg {P : Program} {T : kh} (hT : fG P T) {w0 : World} {mu : Mu} {c : Cz} {st : St} {a : Act} {w : World} (h : Rel w0 mu c st a w)
   {d : Option Nat} {t ty : Nat} {r : RT} {bytes : Nat} (ht : T.elem t = some (r, bytes)) {x : V} {ux uy : Value} {b k gb : Nat} {B : gr} {ys : List (aq r)} (hx : eo c st w x ux) (hy : iT c st w (.ref b k gb .full) uy) (hB : aQ st b k gb = some B) (Ww : B.own = true) (Sa : B.md = .dp)
   (Wx : bA r B.xs = some ys) {aP : St} (hv : (Bm st d r bytes x b k ys).val = some aP) (hd : ∀ k, d = some k → k < a.tmps.size) :
   ∃ v w', (Builtin.append_ #[t, t] ty #[ux, uy]).run P w = .ok v w' ∧ ∃ c', Rel w0 mu c' aP (a.put d v) w' := by
 obtain ⟨e, he⟩ := a6 Wx; subst e; simp only at he; subst he; obtain ⟨gy, vy, yb, FY, hyb, hyc⟩ := Ac (h.rH hB) Ww Sa (hy.2.2 B hB); have Po : (B.xs.length = 0 ∧ (uy = .slice none 0 0 ∨ ∃ a c, uy = .slice (some a) 0 c)) ∨ (B.xs.length ≠ 0 ∧ ∃ a c, uy = .slice (some a) B.xs.length c ∧ ∀ (j : Nat) v, vy[j]? = some v → w.cell? (a.add j) = some v) := by
   rcases hyc with ⟨_, e1, e2⟩ | ⟨b', off, lo, cap, n, ad, cur, te, _, e1, e2, e3, e4, e5, e6, e7⟩
   · exact .inl ⟨e2, .inl e1⟩
   · by_cases h0 : B.xs.length = 0
     · exact .inl ⟨h0, .inr ⟨ad, n, by rw [e1, h0]⟩⟩
     · refine .inr ⟨h0, ad, n, e1, fun j v hv => ?_⟩; rw [e4 (by omega), Addr.add_mid]; exact e7 j v hv
 unfold Bm at hv
 split at hv
 · -- behind nothing
   obtain ⟨hb, hv⟩ := eZ hv; obtain ⟨kk, s0, rfl, gW, rfl⟩ := lD hv; obtain ⟨xM, mL, _, _, _⟩ := kj [(b, k)] h; have hR := xM.iv mL kk 0; refine DV hT hR ht (xs := []) (ys := B.xs) (vx := []) (vy := vy) (PX := fun _ _ => False) (PY := fun p q => c.own q = some (.sp b k) ∧ gy q = p) (g := gy) (xb := none) gW (hd kk rfl) (Nat.le_of_ble_eq_true hb) rfl FY (fun _ _ _ h => h.elim) (fun i q k' hk => ⟨by simp, Cz.l7 (n := (b, k)) (by simp) hk.1, by simpa using hk.2⟩) Po (fun _ e => by cases e) (.inl ⟨rfl, hx, rfl⟩)
 · rename_i a' j g vw
   split at hv
   · rename_i A VP; obtain ⟨g2, e1, hA, hAo, hAm⟩ := DW VP; injection e1 with e1; injection e1 with q1 q2 q3 q4; subst q1 q2 q3 q4
     cases oJ : bA B.r A.xs with
     | none => rw [oJ] at hv; simp [N.val] at hv
     | some xs =>
       rw [oJ] at hv; simp only at hv; obtain ⟨fE, hv⟩ := dD hv; obtain ⟨hb, hv⟩ := eZ hv; obtain ⟨kk, s0, rfl, gW, rfl⟩ := lD hv; obtain ⟨r0, Im, nS, Sb⟩ := A; obtain ⟨e, he⟩ := a6 oJ; simp only at e; subst e; simp only at he; subst he; have Nb : Lb.sp a' j ≠ Lb.sp b k := by
         intro e; injection e with e1 e2; subst e1 e2; simp at fE
       obtain ⟨gx, vx, xb, HX, KX, hxc⟩ := Ac (h.rH hA) hAo hAm (hx.2.2 _ hA); obtain ⟨xM, mL, _, _, _⟩ := kj [(a', j), (b, k)] h; have hR := xM.iv mL kk 0; have AW : ∀ q, c.own q = some (.sp a' j) → (c.iv [(a', j), (b, k)] (.sp kk 0)).own q = some (.sp kk 0) := fun q hq => Cz.l7 (n := (a', j)) (by simp) hq
       classical
       refine DV hT hR ht (xs := xs) (ys := B.xs) (vx := vx) (vy := vy) (PX := fun p q => c.own q = some (.sp a' j) ∧ gx q = p) (PY := fun p q => c.own q = some (.sp b k) ∧ gy q = p)
         (g := fun q => if c.own q = some (.sp b k) then R9 xs.length (gy q) else gx q) (xb := xb) gW (hd kk rfl) (Nat.le_of_ble_eq_true hb) HX FY (fun i q k' hk => ⟨?_, AW _ hk.1, ?_⟩) (fun i q k' hk => ⟨?_, Cz.l7 (n := (b, k)) (by simp) hk.1, ?_⟩) Po (fun b' e => AW _ (KX b' e).1) ?_
       · intro e; have := (KX k' e).2; rw [hk.2] at this; simp at this
       · rw [if_neg]
         · exact hk.2
         · rw [hk.1]; intro e; exact Nb (Option.some.inj e)
       · intro e; have := (KX k' e).1; rw [hk.1] at this; exact Nb (Option.some.inj this).symm
       · rw [if_pos hk.1, hk.2]; rfl
       · exact hxc
   · simp [N.val] at hv
 · simp [N.val] at hv
theorem BD {P : Program} {T : kh} (hT : fG P T) {w0 : World} {mu : Mu} {c : Cz} {st : St} {a : Act} {w : World} (h : Rel w0 mu c st a w)
   {d : Option Nat} {t ty : Nat} {x y : V} {ux uy : Value} (hx : eo c st w x ux) (hy : eo c st w y uy) {aP : St} (hv : (A6 T st d t x y).val = some aP) (hd : ∀ k, d = some k → k < a.tmps.size) :
   ∃ v w', (Builtin.append_ #[t, t] ty #[ux, uy]).run P w = .ok v w' ∧ ∃ c', Rel w0 mu c' aP (a.put d v) w' := by
 unfold A6 at hv
 cases ht : T.elem t with
 | none => simp [ht, N.val] at hv
 | some p =>
   obtain ⟨r, bytes⟩ := p; simp only [ht] at hv
   cases VP : MS st y with
   | some q =>
     obtain ⟨b, k, B⟩ := q; rw [VP] at hv; simp only at hv; obtain ⟨gb, rfl, hB, Ww, Sa⟩ := DW VP
     cases Wx : bA r B.xs with
     | none => rw [Wx] at hv; simp [N.val] at hv
     | some ys =>
       rw [Wx] at hv; exact Gg hT h ht hx hy hB Ww Sa Wx hv hd
   | none =>
   rw [VP] at hv; simp only at hv; have tail : ∀ (xs : List (aq r)) (used : List (Nat × Nat)), (match y with
         | .one c => kL st r c fun ys => N.br (Nat.ble ((xs.length + ys.length) * bytes) lim)
             (bp (used.foldl (fun (s : St) (p : Nat × Nat) => bo s p.1 p.2 none) st) d { r := r, own := true, xs := xs ++ ys }) .fail
         | _ => N.fail).val = some aP →
       ∃ ys k s0, d = some k ∧ nth (used.foldl (fun (s : St) (p : Nat × Nat) => bo s p.1 p.2 none) st) k = some s0 ∧ (xs.length + ys.length) * bytes ≤ lim ∧ VO w c.ok r uy ys ∧
         aP = lN (fun s => { s with v := .one (.ref k 0 (s0.ag + 1) .full), aJ := [some { r := r, own := true, xs := xs ++ ys }], ag := s0.ag + 1 }) (used.foldl (fun (s : St) (p : Nat × Nat) => bo s p.1 p.2 none) st) k := by
     intro xs used hv
     cases y with
     | agg _ => simp [N.val] at hv
     | lU _ => simp [N.val] at hv
     | one cy =>
       obtain ⟨ys, hv, hr⟩ := z7 h hy hv; obtain ⟨hb, hv⟩ := eZ hv; obtain ⟨k, s0, hk, gW, po⟩ := lD hv; exact ⟨ys, k, s0, hk, gW, Nat.le_of_ble_eq_true hb, hr, po⟩
   cases x with
   | agg _ => simp [N.val] at hv
   | lU _ => simp [N.val] at hv
   | one cx => cases cx with
     | dL =>
       obtain ⟨ys, k, s0, rfl, gW, hb, hr, rfl⟩ := tail [] [] hv; exact DU hT h ht gW (hd k rfl) hb hr (.inl ⟨hx, rfl⟩)
     | ref a' j g vw =>
       simp only at hv
       cases hA : aQ st a' j g with
       | none => simp [hA, N.val] at hv
       | some A =>
         simp only [hA] at hv; obtain ⟨eY, hv⟩ := dD hv; rw [Bool.and_eq_true] at eY; have v8 := Md.lg.1 eY.2; have eY := eY.1
         cases hc : bA r A.xs with
         | none => simp [hc, N.val] at hv
         | some xs =>
           simp only [hc] at hv; obtain ⟨e, he⟩ := a6 hc; subst e; simp only at he; subst he; obtain ⟨ys, k, s0, rfl, gW, hb, hr, rfl⟩ := tail (vw.app A.xs) [(a', j)] hv; obtain ⟨xM, mL⟩ := h.kill a' j; obtain ⟨sl, Bq, Pk, Br⟩ := bc hA; have Ga := h.aJ a' j sl A Bq Br; have hs := hx.2.2 A hA; refine DU hT xM ht gW (hd k rfl) hb hr ?_
           cases hl : c.lc a' j with
           | nil =>
             unfold iB at hs; rw [hl] at hs; exact .inl ⟨hs.1, List.length_eq_zero_iff.1 hs.2⟩
           | «at» b off cap =>
             unfold iB at hs; rw [hl] at hs; obtain ⟨ad, n, rfl, hn, xR, FZ⟩ := hs; unfold bM at Ga; rw [hl] at Ga; obtain ⟨ho, _, aai, eX⟩ := Ga; rw [eY] at ho; exact .inr ⟨a', j, b, off, vw.lo, cap, n, ad, ho, mL, rfl, hn, xR, FZ, aai, fun i x hi => (bn.sh v8).1 eX _ x (View.vM vw A.xs hi)⟩
     | _ => simp [N.val] at hv
theorem uE {w : World} {ok : Nat → Prop} : (r : RT) → (vs : List Value) → iu r vs → cF w ok r vs (rF r)
 | .nil, vs, h => h
 | .cons (.int k) r, vs, ⟨l, h, h'⟩ => ⟨.int k 0, l, h, pD.2 rfl, uE r l h'⟩
 | .cons .bool r, vs, ⟨l, h, h'⟩ => ⟨.bool false, l, h, qN.2 rfl, uE r l h'⟩
 | .cons .str r, vs, ⟨l, h, h'⟩ => ⟨.string ByteArray.empty, l, h, ur.2 rfl, uE r l h'⟩
 | .cons (.sl q) r, vs, ⟨l, h, h'⟩ => ⟨.slice none 0 0, l, h, (mC _ _ _ _ _).2 (.inl ⟨rfl, rfl⟩), uE r l h'⟩
theorem aW.replicate {w : World} {ok : Nat → Prop} {r : RT} {vs : List Value} {x : aq r} (h : cF w ok r vs x) : (n : Nat) → aW w ok r ((List.replicate n vs).flatten) (List.replicate n x)
 | 0 => rfl
 | n + 1 => ⟨vs, (List.replicate n vs).flatten, by simp [List.replicate_succ], h, aW.replicate h n⟩
theorem BE (z : Array Value) (n W : Nat) (hz : z.size = W) (hW : 0 < W) : ((Array.range (n * W)).map (z[· % z.size]!)).toList = (List.replicate n z.toList).flatten := by
 subst hz
 induction n with
 | zero => simp
 | succ n ih =>
   have e1 : ((Array.range ((n + 1) * z.size)).map (z[· % z.size]!)).toList = ((Array.range (n * z.size)).map (z[· % z.size]!)).toList ++ z.toList := by
     apply List.ext_getElem
     · simp [Nat.add_mul]
     · intro k h1 h2; simp only [Array.getElem_toList, Array.getElem_map, Array.getElem_range]; rw [List.getElem_append]
       by_cases hk : k < n * z.size
       · rw [dif_pos (by simpa using hk)]; simp
       · rw [dif_neg (by simpa using hk)]; have mL : k < (n + 1) * z.size := by simpa using h1
         rw [Nat.add_mul, Nat.one_mul] at mL; have hm : k % z.size = k - n * z.size := by
           have : k = (k - n * z.size) + n * z.size := by omega
           rw [this, Nat.add_mul_mod_self_right, Nat.mod_eq_of_lt (by omega)]; omega
         have bX : k - n * z.size < z.size := by omega
         simp [hm, bX]
   rw [e1, ih]; rw [List.replicate_succ', List.flatten_append]; simp
theorem Nc {P : Program} {T : kh} (hT : fG P T) {w0 : World} {mu : Mu} {c : Cz} {st : St} {a : Act} {w : World} (h : Rel w0 mu c st a w)
   {d : Option Nat} {t : Nat} {x y : V} {ux uy : Value} (hx : eo c st w x ux) (hy : eo c st w y uy) {aP : St} (hv : (MT T st d t x y).val = some aP) (hd : ∀ k, d = some k → k < a.tmps.size) :
   ∃ v w', (Instr.makeSlice t ux uy).run P w = .ok v w' ∧ gZ w w' ∧ ∃ c', Rel w0 mu c' aP (a.put d v) w' := by
 unfold MT at hv
 split at hv
 · rename_i r bytes n m ht; obtain ⟨ME, hv⟩ := eZ hv; obtain ⟨hn, hv⟩ := eZ hv; obtain ⟨hb, hv⟩ := eZ hv; obtain ⟨k, s0, rfl, gW, rfl⟩ := lD hv; have ME := of_decide_eq_true ME; have hn := of_decide_eq_true hn; have hb := Nat.le_of_ble_eq_true hb; subst ME; obtain ⟨n, rfl⟩ := Int.eq_ofNat_of_zero_le hn; obtain ⟨e, i, z, hu, hi, ki, BB, Wu, J4, hz, HY⟩ := hT.elem t r bytes ht; have Gf : z.cells.size = r.width := by have := iu.length r _ HY; simpa using this
   have e1 : ux = .int .i64 n := hx; have e2 : uy = .int .i64 n := hy; subst e1 e2; unfold lim at hb; simp only [Int.toNat_natCast] at hb; have VN : n ≤ 35184372088832 := by
     have : n * 1 ≤ n * bytes := Nat.mul_le_mul_left _ J4; omega
   have afA : IntKind.i64.wrap (n : Int) = n := by
     have := IntKind.wrap_i64 (n : Int); rw [this]; omega
   have ns : (Instr.makeSlice t (.int .i64 n) (.int .i64 n)).run P w =
       .ok (.slice (some ⟨w.heap.size, 0, none⟩) n n) (w.alloc (.cells ((Array.range (n * r.width)).map (z.cells[· % z.cells.size]!)) e (0, 0))) := by
     have := run_make (P := P) w t e i z hu hi hz .i64 .i64 n n (by omega) (Int.le_refl _) (by
       have h2 : ((i.bytes * n : Nat) : Int) ≤ 281474976710656 := by rw [Wu, Nat.mul_comm]; omega
       rwa [Int.natCast_mul] at h2) (by omega)
     simpa [madeCells, ki] using this
   refine ⟨_, _, ns, gZ.alloc _ _, ?_⟩
   cases VP : T.dp t with
   | true =>
     have := h.E0 (r := r) (P := fun _ _ => False) (g := fun _ => []) (xs := List.replicate n (rF r)) (cur := (Array.range (n * r.width)).map (z.cells[· % z.cells.size]!)) (ty := e) (cap := n) gW (hd k rfl) (by simp) (by simp) (cR.replicate (fun i => uC r [i] 0 _ HY) n 0) (fun _ _ _ h => h.elim) (by
       rw [← BE z.cells n r.width Gf BB, List.take_length])
     simpa using this
   | false =>
   have tT : aW w c.ok r ((List.replicate n z.cells.toList).flatten) (List.replicate n (rF r)) := aW.replicate (uE r _ HY) n; have := h.fresh (r := r) (xs := List.replicate n (rF r)) (cur := (Array.range (n * r.width)).map (z.cells[· % z.cells.size]!)) (ty := e) (cap := n) gW (hd k rfl) (by simp) (by simp) tT (by
     rw [← BE z.cells n r.width Gf BB, List.take_length])
   simpa using this
 · simp [N.val] at hv
end Go.TM
namespace Go.TM
open Go Go.RowKit
theorem x5 (off : Nat) : (l : List Value) → (k : Nat) → (cells : Array Value) → off + k + l.length ≤ cells.size →
   ((l.zipIdx k).foldl (fun cs (p : Value × Nat) => cs.setIfInBounds (off + p.2) p.1) cells).toList = bE cells.toList (off + k) l
 | [], k, cells, _ => by simp [bE]
 | v :: l, k, cells, h => by
   simp only [List.zipIdx_cons, List.foldl_cons, List.length_cons] at h ⊢; rw [x5 off l (k + 1) _ (by simp; omega)]; rw [Array.toList_setIfInBounds]; apply List.ext_getElem?; intro q; rw [jW (by simp; omega), jW (by simp; omega), List.getElem?_set]; simp only [List.length_cons]
   by_cases h1 : off + (k + 1) ≤ q ∧ q < off + (k + 1) + l.length
   · rw [if_pos h1, if_pos (by omega)]; rw [show q - (off + k) = (q - (off + (k + 1))) + 1 by omega, List.getElem?_cons_succ]
   · rw [if_neg h1]
     by_cases h2 : off + k = q
     · subst h2; rw [if_pos rfl, if_pos (by simp; omega), if_pos (by omega)]; simp
     · rw [if_neg h2, if_neg (by omega)]
theorem zl {place : Nat → Option (Nat × Nat)} {cells : Array Value} {i : Nat} {v : Value} {rest : List (Nat × Value)} {off size : Nat} (hp : place i = some (off, size)) (hv : v.cells.size = size) (hle : off + size ≤ cells.size) :
   Instr.fill place cells ((i, v) :: rest) = Instr.fill place (bE cells.toList off v.cells.toList).toArray rest := by
 have hf := x5 off v.cells.toList 0 cells (by simp; omega); have e : (v.cells.zipIdx.foldl (fun cs (p : Value × Nat) => cs.setIfInBounds (off + p.2) p.1) cells) = (bE cells.toList off v.cells.toList).toArray := by
   apply Array.ext'; rw [← Array.foldl_toList, Array.toList_zipIdx]; simpa using hf
 conv => lhs; unfold Instr.fill
 simp only [hp]; rw [if_neg (by simp; omega)]; exact congrArg (fun cs => Instr.fill place cs rest) e
def nt (c : Cz) (st : St) (w : World) (ps : List (Nat × V)) (us : List (Nat × Value)) : Prop :=
 ps.length = us.length ∧ ∀ (i : Nat) p u, ps[i]? = some p → us[i]? = some u → p.1 = u.1 ∧ eo c st w p.2 u.2
theorem nt.cons {c : Cz} {st : St} {w : World} {p : Nat × V} {u : Nat × Value} {ps : List (Nat × V)} {us : List (Nat × Value)} (h : nt c st w (p :: ps) (u :: us)) :
   (p.1 = u.1 ∧ eo c st w p.2 u.2) ∧ nt c st w ps us :=
 ⟨h.2 0 p u rfl rfl, by have := h.1; simpa using this, fun i a b ha hb => h.2 (i + 1) a b (by simpa using ha) (by simpa using hb)⟩
theorem x6 {w0 : World} {mu : Mu} {c : Cz} {st : St} {a : Act} {w : World} (h : Rel w0 mu c st a w) {r : RT} (hW : 0 < r.width) : (ps : List (Nat × V)) → (us : List (Nat × Value)) → nt c st w ps us →
   (i : Nat) → (k : List (aq r) → List (Nat × Nat) → N) → {aP : St} → (vL st r i ps k).val = some aP → (cells : Array Value) → cells.size = (i + ps.length) * r.width →
   ∃ xs m, (k xs m).val = some aP ∧ xs.length = ps.length ∧ (∀ p ∈ m, ∃ g A, aQ st p.1 p.2 g = some A) ∧
     ∃ vs : List Value, vs.length = ps.length * r.width ∧ Instr.fill (fun i => some (i * r.width, r.width)) cells us = some (cells.toList.take (i * r.width) ++ vs).toArray ∧
     ∀ ok : Nat → Prop, (∀ b, c.ok b → ok b) → (∀ p ∈ m, ∀ b, c.own b = some (.sp p.1 p.2) → ok b) → aW w ok r vs xs
 | [], us, hp, i, k, aP, hv, cells, ki => by
   have : us = [] := by have := hp.1; simp at this; exact List.length_eq_zero_iff.1 this.symm
   subst this; refine ⟨[], [], hv, rfl, fun p hp => by simp at hp, [], by simp, ?_, fun _ _ _ => rfl⟩; simp only [Instr.fill, List.append_nil]; simp at ki; rw [List.take_of_length_le (by simp; omega)]
 | (p, v) :: ps, us, hp, i, k, aP, hv, cells, ki => by
   cases us with
   | nil => have := hp.1; simp at this
   | cons u us =>
     obtain ⟨⟨QZ, VQ⟩, jZ⟩ := hp.cons; simp only [vL] at hv; obtain ⟨hc, hv⟩ := dD hv; rw [Bool.and_eq_true] at hc; have Sc := Nat.eq_of_beq_eq_true hc.2; obtain ⟨oJ, _⟩ := VQ.cells hc.1; obtain ⟨x, m1, h1, h2, h3⟩ := xT h r v.cells _ oJ _ hv; have hlen : u.2.cells.toList.length = r.width := by
       have := h3 (fun _ => True) (fun _ _ => trivial) (fun _ _ _ _ => trivial); exact cF.length r _ x this
     simp only [List.length_cons] at ki; have hm1 : (i + (ps.length + 1)) * r.width = i * r.width + r.width + ps.length * r.width := by rw [Nat.add_mul, Nat.add_mul]; omega
     have hle : i * r.width + r.width ≤ cells.size := by omega
     have Gh := zl (place := fun i => some (i * r.width, r.width)) (cells := cells) (i := i) (v := u.2) (rest := us) rfl (by simpa using hlen) hle; obtain ⟨xs, m2, g1, g2, g3, vs, g4, g5, g6⟩ := x6 h hW ps us jZ (i + 1) _ h1 (bE cells.toList (i * r.width) u.2.cells.toList).toArray (by
       rw [List.size_toArray, fX (by simp at hlen ⊢; omega)]; simp; rw [ki]; congr 1; omega)
     refine ⟨x :: xs, m1 ++ m2, g1, by simp [g2], fun q hq => ?_, u.2.cells.toList ++ vs, by simp at hlen ⊢; rw [hlen, g4, Nat.add_mul]; omega, ?_, fun ok ho hm => ⟨_, vs, rfl, h3 ok ho (fun q hq => hm q (by simp [hq])), g6 ok ho (fun q hq => hm q (by simp [hq]))⟩⟩
     · rcases List.mem_append.1 hq with hq | hq
       · exact h2 q hq
       · exact g3 q hq
     · have e : (u : Nat × Value) = (i, u.2) := by rw [← Sc]; simp at QZ; rw [QZ]
       rw [e, Gh, g5]
       congr 2
       rw [← List.append_assoc]
       congr 1
       show List.take ((i + 1) * r.width) (bE cells.toList (i * r.width) u.2.cells.toList) = _; unfold bE; rw [Nat.add_mul, Nat.one_mul]; rw [List.take_append_of_le_length (by simp at hlen ⊢; omega)]; rw [List.take_of_length_le (by simp at hlen ⊢; omega)]
theorem BF {P : Program} {T : kh} (hT : fG P T) {w0 : World} {mu : Mu} {c : Cz} {st : St} {a : Act} {w : World} (h : Rel w0 mu c st a w)
   {d : Option Nat} {t len : Nat} {ps : List (Nat × V)} {us : Array (Nat × Value)} (hp : nt c st w ps us.toList) {aP : St} (hv : (uo T st d t len ps).val = some aP) (hd : ∀ k, d = some k → k < a.tmps.size) :
   ∃ v w', (Instr.buildSlice t len us).run P w = .ok v w' ∧ gZ w w' ∧ ∃ c', Rel w0 mu c' aP (a.put d v) w' := by
 unfold uo at hv
 cases ht : T.elem t with
 | none => simp [ht, N.val] at hv
 | some p =>
   obtain ⟨r, bytes⟩ := p; simp only [ht] at hv; obtain ⟨hc, hv⟩ := dD hv; rw [Bool.and_eq_true] at hc; have hlen := Nat.eq_of_beq_eq_true hc.1; have aaj := Nat.le_of_ble_eq_true hc.2; obtain ⟨e, i, z, hu, hi, ki, BB, Wu, J4, hz, HY⟩ := hT.elem t r bytes ht; have Gf : z.cells.size = r.width := by have := iu.length r _ HY; simpa using this
   cases Nd : (bif T.dp t then H8 st r ps else none) with
   | some pq =>
     obtain ⟨x1, m⟩ := pq; rw [Nd] at hv; simp only at hv; obtain ⟨hdi, hv⟩ := dD hv; obtain ⟨k, s0, rfl, gW, rfl⟩ := lD hv; obtain ⟨_, Nd⟩ := aH Nd; unfold H8 at Nd
     split at Nd
     · -- no row
       simp only [Option.some.injEq, Prod.mk.injEq] at Nd; obtain ⟨rfl, rfl⟩ := Nd; have J2 : len = 0 := by simpa using hlen.symm
       subst J2; have DX : us = #[] := by have := hp.1; simp at this; exact Array.eq_empty_of_size_eq_zero this.symm
       subst DX; have BG : (Instr.buildSlice t 0 #[]).run P w = .ok (.slice (some ⟨w.heap.size, 0, none⟩) 0 0) (w.alloc (.cells #[] e (0, 0))) := by
         simp [Instr.buildSlice, run_underlying hu, sizeOf, typeInfo, hi, Instr.fill, newRow, show Array.range 0 = #[] from rfl]
       have MF := h.E0 (r := r) (P := fun _ _ => False) (g := fun _ => []) (xs := []) (cur := #[]) (ty := e) (cap := 0) gW (hd k rfl) (by simp) (by simp) (vs := []) rfl (fun _ _ _ h => h.elim) rfl; exact ⟨_, _, BG, gZ.alloc _ _, MF⟩
     · rename_i i0 v0 _; obtain ⟨hc2, KY⟩ := aH Nd; clear Nd; rw [Bool.and_eq_true] at hc2; obtain ⟨x2, aal, Di⟩ : ∃ x2, gl st r v0.cells = some (x2, m) ∧ x1 = [x2] := by
         cases hq : gl st r v0.cells with
         | none => rw [hq] at KY; cases KY
         | some q =>
           rw [hq] at KY; simp only [Option.some.injEq, Prod.mk.injEq] at KY; exact ⟨q.1, by rw [← KY.2], KY.1.symm⟩
       subst Di; have Q0 := Nat.eq_of_beq_eq_true hc2.2; subst Q0; obtain ⟨⟨i1, u1⟩, DX⟩ : ∃ u1, us.toList = [u1] := by
         have := hp.1
         match hl : us.toList with
         | [] => rw [hl] at this; simp at this
         | [u1] => exact ⟨u1, rfl⟩
         | _ :: _ :: _ => rw [hl] at this; simp at this
       obtain ⟨QZ, VQ⟩ := hp.2 0 (0, v0) (i1, u1) rfl (by rw [DX]; rfl); simp only at QZ VQ; subst QZ; obtain ⟨oJ, Dh⟩ := VQ.cells hc2.1; obtain ⟨PG, hmo, G, hG⟩ := x3 h r v0.cells _ oJ aal; have Ij := l8 hdi; obtain ⟨xM, mL, _, _, _⟩ := kj (dM m) h; have hR := xM.iv mL k 0; have Wy : len = 1 := by simpa using hlen.symm
       subst Wy; have hD := hG (fun p k => (∃ n ∈ dM m, c.own k = some (.sp n.1 n.2)) ∧ ∀ (col : Nat) (n : Nat × Nat), m[col]? = some (some n) → c.own k = some (.sp n.1 n.2) → p = [0] ++ [col] ++ G col k) [0] 0 (fun col n k hc hk => ⟨⟨n, jY hc, hk⟩, fun aac n' h1 h2 => by
         rw [hk] at h2; injection h2 with h2; injection h2 with q1 q2; have : n = n' := Prod.ext q1 q2; subst this; rw [sD Ij h1 hc, Nat.zero_add]⟩)
       have DT := du.length r _ _ _ _ hD; obtain ⟨g', _, p2⟩ := zk (c := c) Ij G (fun _ => []) [0] .out (fun n _ => by simp); have Gh := zl (place := fun i => some (i * r.width, r.width)) (cells := (Array.range (1 * r.width)).map (z.cells[· % z.cells.size]!)) (i := 0) (v := u1) (rest := []) rfl (by simpa using DT) (by simp); have BG : (Instr.buildSlice t 1 us).run P w = .ok (.slice (some ⟨w.heap.size, 0, none⟩) 1 1) (w.alloc (.cells u1.cells e (0, 0))) := by
         refine run_buildSlice (P := P) w t e 1 us u1.cells i z hu hi hz (by rw [ki]; omega) (by rw [ki]; intro h; rcases Nat.mul_eq_zero.1 h with h | h <;> omega) ?_; rw [DX, ki, Gh]; simp only [Instr.fill]
         congr 1
         apply Array.ext'; show bE _ _ _ = _; unfold bE; rw [List.drop_eq_nil_of_le (by simp at DT ⊢; omega)]; simp
       have MF := hR.E0 (r := r) (xs := [x2]) (cur := u1.cells) (ty := e) (cap := 1) (g := g') gW (hd k rfl) (by simp) (by simp at DT ⊢; omega) (vs := u1.cells.toList) ⟨_, [], by simp, hD, rfl⟩ (fun i q k hk => by
         obtain ⟨⟨n, hn, xM⟩, mL⟩ := hk; obtain ⟨col, hc⟩ := wG hn; refine ⟨Cz.l7 hn xM, ?_⟩; rw [p2 col n k hc xM]; exact (mL col n hc xM).symm) (List.take_length)
       exact ⟨_, _, BG, gZ.alloc _ _, MF⟩
     · cases Nd
   | none =>
   rw [Nd] at hv; simp only at hv; obtain ⟨xs, m, h1, h2, h3, vs, h4, h5, h6⟩ := x6 h BB ps us.toList hp 0 _ hv ((Array.range (len * r.width)).map (z.cells[· % z.cells.size]!)) (by simp [hlen]); obtain ⟨k, s0, rfl, gW, rfl⟩ := lD h1; have tT : aW w (c.drop m).ok r vs xs := h6 _ (fun b hb => Cz.xS m c b hb) (fun p hp k hk => Cz.A7 m c k hk hp); have hxl : xs.length = len := by rw [h2, hlen]
   have BG : (Instr.buildSlice t len us).run P w = .ok (.slice (some ⟨w.heap.size, 0, none⟩) len len) (w.alloc (.cells vs.toArray e (0, 0))) := by
     simp only [Nat.zero_mul, List.take_zero, List.nil_append] at h5
     by_cases h0 : len = 0
     · subst h0; have PH : ps = [] := List.length_eq_zero_iff.1 hlen; subst PH; have DX : us = #[] := by have := hp.1; simp at this; exact Array.eq_empty_of_size_eq_zero this.symm
       subst DX; have xY : vs = [] := by simp at h4; exact h4
       subst xY; simp [Instr.buildSlice, run_underlying hu, sizeOf, typeInfo, hi, Instr.fill, newRow, show Array.range 0 = #[] from rfl]
     · refine run_buildSlice (P := P) w t e len us vs.toArray i z hu hi hz (by rw [ki]; omega) (by rw [ki]; intro h; rcases Nat.mul_eq_zero.1 h with h | h <;> omega) ?_; rw [ki]; exact h5
   have MF := (h.freeze m).fresh (r := r) (xs := xs) (cur := vs.toArray) (ty := e) (cap := len) gW (hd k rfl) (by omega) (by simp [h4, hlen]) tT (by simp); rw [hxl] at MF; exact ⟨_, _, BG, gZ.alloc _ _, MF⟩
theorem iu.rel {c : Cz} {st : St} {w : World} : (r : RT) → (vs : List Value) → iu r vs → eK c st w ((dP r (rF r)).map fun | .shr _ _ => .dL | c => c) vs
 | .nil, vs, h => by simp only [iu] at h; subst h; exact ⟨rfl, fun i x v hx => by simp [dP] at hx⟩
 | .cons t r, vs, h => by
   have key : ∃ v l x, vs = v :: l ∧ iu r l ∧ ((fun | .shr _ _ => .dL | c => c : CV → CV) (H5 t (H4 t))) = x ∧ iT c st w x v := by
     cases t with
     | int k => obtain ⟨l, h, h'⟩ := h; exact ⟨_, l, _, h, h', rfl, rfl⟩
     | bool => obtain ⟨l, h, h'⟩ := h; exact ⟨_, l, _, h, h', rfl, rfl⟩
     | str => obtain ⟨l, h, h'⟩ := h; exact ⟨_, l, _, h, h', rfl, rfl⟩
     | sl q => obtain ⟨l, h, h'⟩ := h; exact ⟨_, l, _, h, h', rfl, rfl⟩
   obtain ⟨v, l, x, rfl, hl, hx, hr⟩ := key; obtain ⟨h1, h2⟩ := iu.rel (c := c) (st := st) (w := w) r l hl; refine ⟨by simp [dP] at h1 ⊢; exact h1, fun i y u hy hu => ?_⟩
   cases i with
   | zero =>
     simp [dP, rF] at hy hu; subst hu; rw [← hy]; have : (match H5 t (H4 t) with | .shr _ _ => CV.dL | c => c) = x := hx; rw [this]; exact hr
   | succ i => exact h2 i y u (by simpa [dP, rF] using hy) (by simpa using hu)
theorem uF {c : Cz} {st : St} {w : World} {r : RT} {vs : List Value} (h : iu r vs) : eK c st w (mG r) vs := iu.rel r vs h
theorem x7 {P : Program} {T : kh} {c : Cz} {st : St} {w : World} {t : Nat} {b9 : List (Nat × Nat)} (PI : ∀ f o s, T.off t f = some o → T.Wj t f = some s → b9[f]? = some (o, s)) :
   (ps : List (Nat × V)) → (us : List (Nat × Value)) → nt c st w ps us → (cs l : List CV) → (cells : Array Value) → eK c st w cs cells.toList → mI T t cs ps = some l →
   ∃ sn, Instr.fill (b9.toArray[·]?) cells us = some sn ∧ eK c st w l sn.toList
 | [], us, hp, cs, l, cells, hl, h => by
   have : us = [] := by have := hp.1; simp at this; exact List.length_eq_zero_iff.1 this.symm
   subst this; simp only [mI, Option.some.injEq] at h; subst h; exact ⟨cells, rfl, hl⟩
 | (f, v) :: ps, us, hp, cs, l, cells, hl, h => by
   cases us with
   | nil => have := hp.1; simp at this
   | cons u us =>
     obtain ⟨⟨QZ, VQ⟩, jZ⟩ := hp.cons; simp only [mI] at h
     cases ho : T.off t f with
     | none => simp [ho] at h
     | some o =>
       cases hs : T.Wj t f with
       | none => simp [ho, hs] at h
       | some s =>
         simp only [ho, hs] at h; obtain ⟨hc, h⟩ := aH h; rw [Bool.and_eq_true] at hc; obtain ⟨oJ, _⟩ := VQ.cells hc.1; have hlen : v.cells.length = s := Nat.eq_of_beq_eq_true hc.2
         cases hpc : putCells cs o v.cells with
         | none => simp [hpc] at h
         | some lV =>
           simp only [hpc] at h; obtain ⟨hle, rfl⟩ := wm hpc; have h1 := hl.1; have h2 := oJ.1; have Gh := zl (place := (b9.toArray[·]?)) (cells := cells) (i := f) (v := u.2) (rest := us) (off := o) (size := s) (by simpa using PI f o s ho hs) (by simp at h2; omega) (by simp at h1 h2; omega); obtain ⟨sn, g1, g2⟩ := x7 (P := P) PI ps us jZ _ l (bE cells.toList o u.2.cells.toList).toArray (by simpa using hl.bE oJ o hle) h; refine ⟨sn, ?_, g2⟩; have e : (u : Nat × Value) = (f, u.2) := by simp at QZ; rw [QZ]
           rw [e, Gh]; exact g1
theorem Nf {P : Program} {T : kh} (hT : fG P T) {w0 : World} {mu : Mu} {c : Cz} {st : St} {a : Act} {w : World} (h : Rel w0 mu c st a w)
   {d : Option Nat} {t : Nat} {r : RT} {ps : List (Nat × V)} {us : Array (Nat × Value)} {l : List CV} (hr : T.row t = some r) (hg : T.agg t = true) (hp : nt c st w ps us.toList)
   (hf : mI T t (mG r) ps = some l) (hd : ∀ k, d = some k → k < a.tmps.size) :
   ∃ v, (∀ w' : World, (Instr.build t us).run P w' = .ok v w') ∧ Rel w0 mu c (aS st d (.agg l)) (a.put d v) w := by
 obtain ⟨i, z, hi, hz, HY⟩ := hT.row t r hr; obtain ⟨fs, b9, hu, PI, hpo⟩ := hT.bld t hg; obtain ⟨sn, g1, g2⟩ := x7 (P := P) (c := c) (st := st) (w := w) hpo ps us.toList hp (mG r) l z.cells (uF HY) hf; refine ⟨.agg sn, fun w' => run_build w' t us sn ?_, h.aS ⟨sn, rfl, g2⟩ hd⟩; unfold Program.built; simp only [hi, hu, hz, PI]; exact g1
end Go.TM
namespace Go.TM
open Go Go.RowKit
theorem Ng {P : Program} {w : World} {op : BinOp} {t : TypeId} {k : IntKind} {a b : Int} {r : Bool} (h : MP op a b = some r) :
   (binOp op t (.int k a) (.int k b)).run P w = .ok (.bool r) w := by
 cases op <;> simp only [MP, Option.some.injEq, reduceCtorEq] at h <;> subst h <;> unfold binOp Op.intCmp <;> simp <;> rfl
theorem Io {P : Program} {w : World} {op : BinOp} {t : TypeId} {k : IntKind} {a b n : Int} (h : Bk op k a b = some n) :
   (binOp op t (.int k a) (.int k b)).run P w = .ok (.int k n) w := by
 cases op <;> simp [Bk] at h <;> subst h <;> simp [binOp, Op.intArith, Op.intBits]
theorem Nh {P : Program} {w : World} {op : BinOp} {t : TypeId} {k : IntKind} {a b n : Int} (h : MQ op k a b = some n) (hb : b ≠ 0) :
   (binOp op t (.int k a) (.int k b)).run P w = .ok (.int k n) w := by
 cases op <;> simp [MQ] at h <;> subst h <;> simp [binOp, Op.intDiv, hb]
theorem Ip {P : Program} {w : World} {op : BinOp} {t : TypeId} {k l : IntKind} {a b n : Int} (h : Bl op k a b.toNat = some n) (hb : 0 ≤ b) :
   (binOp op t (.int k a) (.int l b)).run P w = .ok (.int k n) w := by
 have lk : ¬ b < 0 := by omega
 cases op <;> simp [Bl] at h <;> subst h <;> simp [binOp, Op.shift, lk]
theorem kN {P : Program} {w : World} (op : BinOp) (t : TypeId) (x y : Operand) (a b : Value) (h : ¬ (a = .nilIface ∧ b = .nilIface)) (h2 : ∀ l m, ¬ (a = .agg l ∧ b = .agg m)) :
   (eqGuard op t x y a b).run P w = .ok () w := by
 unfold eqGuard
 cases op <;> cases a <;> cases b <;> simp_all
theorem PJ {P : Program} {T : kh} (hT : fG P T) {w0 : World} {mu : Mu} {c : Cz} {st : St} {a : Act} {w : World} (h : Rel w0 mu c st a w) (hE : ∀ t, T.eq t = true → ∀ (l m : List CV) (us vs : Array Value) (b : Bool) (op : BinOp) (ox oy : Operand), T.fits t l = true → lY l m = some b →
     eK c st w l us.toList → eK c st w m vs.toList → ∀ w' : World, (eqGuard op t ox oy (.agg us) (.agg vs)).run P w' = .ok () w' ∧ (Op.equal t (.agg us) (.agg vs)).run P w' = .ok b w')
   {d : Option Nat} {t : Nat} {op : BinOp} {ox oy : Operand} {x y : V} {ux uy : Value} (hx : eo c st w x ux) (hy : eo c st w y uy) {aP : St} (hv : (ue T st d op t x y).val = some aP) (hd : ∀ k, d = some k → k < a.tmps.size) :
   ∃ v, (∀ w' : World, (do eqGuard op t ox oy ux uy; binOp op t ux uy : Sem Value).run P w' = .ok v w') ∧ Rel w0 mu c aP (a.put d v) w := by
 have fin : ∀ (cv : CV) (v : Value), iT c st w cv v → (N.done (aS st d (.one cv))).val = some aP → (∀ w' : World, (eqGuard op t ox oy ux uy).run P w' = .ok () w') → (∀ w' : World, (binOp op t ux uy).run P w' = .ok v w') →
     ∃ v, (∀ w' : World, (do eqGuard op t ox oy ux uy; binOp op t ux uy : Sem Value).run P w' = .ok v w') ∧ Rel w0 mu c aP (a.put d v) w := by
   intro cv v hr po hg hb; simp only [N.val, Option.some.injEq] at po; subst po; refine ⟨v, fun w' => ?_, h.aS hr hd⟩; simp [Sem.run_bind, hg, hb]
 cases x with
 | lU _ => simp [ue, N.val] at hv
 | agg l => cases y with
   | lU _ => simp [ue, N.val] at hv
   | one _ => simp [ue, N.val] at hv
   | agg m =>
     obtain ⟨us, rfl, hl⟩ := hx; obtain ⟨vs, rfl, hm⟩ := hy; simp only [ue] at hv; obtain ⟨ht, hv⟩ := dD hv; rw [Bool.and_eq_true] at ht; obtain ⟨ht, oJ⟩ := ht
     cases hc : lY l m with
     | none => cases op <;> simp [hc, N.val] at hv
     | some b =>
       have g := hE t ht l m us vs b op ox oy oJ hc hl hm
       cases op <;> simp only [hc] at hv <;> try (simp [N.val] at hv; done)
       · exact fin (.bool b) (.bool b) rfl hv (fun w' => (g w').1) (fun w' => by simp [binOp, Sem.run_bind, (g w').2])
       · exact fin (.bool (!b)) (.bool (!b)) rfl hv (fun w' => (g w').1) (fun w' => by simp [binOp, Sem.run_bind, (g w').2])
 | one cx => cases y with
   | lU _ => cases cx <;> simp [ue, N.val] at hv
   | agg _ => cases cx <;> simp [ue, N.val] at hv
   | one cy =>
     cases cx <;> cases cy <;> try (simp [ue, N.val] at hv; done)
     · rename_i k p l q; have e1 : ux = .int k p := hx; have e2 : uy = .int l q := hy; subst e1 e2; have hg := fun w' => kN (P := P) (w := w') op t ox oy (.int k p) (.int l q) (by simp) (by simp)
       simp only [ue] at hv
       by_cases hs : op = .shl ∨ op = .shr
       · have my : (match Bl op k p q.toNat with | some n => N.br (decide (0 ≤ q)) (.done (aS st d (.one (.int k n)))) .fail | none => .fail).val = some aP := by
           rcases hs with rfl | rfl <;> exact hv
         cases hsh : Bl op k p q.toNat with
         | none => simp [hsh, N.val] at my
         | some n =>
           simp only [hsh] at my; obtain ⟨hq, my⟩ := eZ my; exact fin (.int k n) (.int k n) rfl my hg (fun _ => Ip hsh (of_decide_eq_true hq))
       · have my : (if k = l then (match MP op p q with
             | some t => N.done (aS st d (.one (.bool t)))
             | none => match Bk op k p q with
               | some n => .done (aS st d (.one (.int k n)))
               | none => match MQ op k p q with
                 | some n => .br (decide (q = 0)) .fail (.done (aS st d (.one (.int k n))))
                 | none => .fail) else .fail).val = some aP := by
           cases op <;> first | exact hv | exact absurd (.inl rfl) hs | exact absurd (.inr rfl) hs
         by_cases hk : k = l
         · subst hk; rw [if_pos rfl] at my
           cases hc : MP op p q with
           | some r => simp only [hc] at my; exact fin (.bool r) (.bool r) rfl my hg (fun _ => Ng hc)
           | none =>
             simp only [hc] at my
             cases ha : Bk op k p q with
             | some n => simp only [ha] at my; exact fin (.int k n) (.int k n) rfl my hg (fun _ => Io ha)
             | none =>
               simp only [ha] at my
               cases Wz : MQ op k p q with
               | none => simp [Wz, N.val] at my
               | some n =>
                 simp only [Wz] at my; rcases uD my with ⟨_, my⟩ | ⟨hq, my⟩
                 · simp [N.val] at my
                 · exact fin (.int k n) (.int k n) rfl my hg (fun _ => Nh Wz (of_decide_eq_false hq))
         · rw [if_neg hk] at my; simp [N.val] at my
     · rename_i p q; have e1 : ux = .bool p := hx; have e2 : uy = .bool q := hy; subst e1 e2; have hg := fun w' => kN (P := P) (w := w') op t ox oy (.bool p) (.bool q) (by simp) (by simp)
       have hq : ∀ u, P.underlying t = some u → u = .bool → ∀ w' : World, (Op.equal t (.bool p) (.bool q)).run P w' = .ok (p == q) w' := by
         rintro u hu rfl w'
         have e : Op.equal t (.bool p) (.bool q) = Op.equalIn ((Op.maxDepth - 1) + 1) t (.bool p) (.bool q) := rfl; rw [e]; simp only [Op.equalIn]; simp [run_underlying hu]
       cases hk : T.kind t with
       | none => cases op <;> simp [ue, hk, N.val] at hv
       | some ty => cases ty with
         | int _ => cases op <;> simp [ue, hk, N.val] at hv
         | str => cases op <;> simp [ue, hk, N.val] at hv
         | sl _ => cases op <;> simp [ue, hk, N.val] at hv
         | bool =>
           obtain ⟨u, hu, hud⟩ := hT.kind t .bool hk; have := hq u hu hud
           cases op <;> simp only [ue, hk] at hv <;> try (simp [N.val] at hv; done)
           · exact fin (.bool (p == q)) (.bool (p == q)) rfl hv hg (fun w' => by simp [binOp, this w'])
           · exact fin (.bool (!(p == q))) (.bool (!(p == q))) rfl hv hg (fun w' => by simp [binOp, this w'])
     · rename_i p q; have e1 : ux = .string p := hx; have e2 : uy = .string q := hy; subst e1 e2; have hg := fun w' => kN (P := P) (w := w') op t ox oy (.string p) (.string q) (by simp) (by simp)
       simp only [ue] at hv
       cases op <;> simp only at hv <;> try (simp [N.val] at hv; done)
       · obtain ⟨hb, hv⟩ := eZ hv; have hb := Nat.le_of_ble_eq_true hb; unfold lim at hb; refine fin (.str (p ++ q)) (.string (p ++ q)) rfl hv hg (fun w' => ?_); have : ¬ ((p.size + q.size : Nat) : Int) > IntKind.i64.max := by
           have : IntKind.i64.max = 9223372036854775807 := by decide
           omega
         simp only [binOp, Op.stringOp]; rw [if_neg this]; rfl
       · exact fin (.bool (lX p q)) (.bool (lX p q)) rfl hv hg (fun w' => by simp [binOp, Op.stringOp, lX])
       · exact fin (.bool (!lX p q)) (.bool (!lX p q)) rfl hv hg (fun w' => by simp [binOp, Op.stringOp, lX])
     · have e1 : ux = .slice none 0 0 := hx; have e2 : uy = .slice none 0 0 := hy; subst e1 e2; have hg := fun w' => kN (P := P) (w := w') op t ox oy (.slice none 0 0) (.slice none 0 0) (by simp) (by simp)
       simp only [ue] at hv
       cases he : T.elem t with
       | none => cases op <;> simp [he, N.val] at hv
       | some p =>
         obtain ⟨e, i, z, hu, _⟩ := hT.elem t p.1 p.2 he; have hq := fun w' => run_equal_slice_nil (P := P) w' t e none 0 0 hu
         cases op <;> simp only [he] at hv <;> try (simp [N.val] at hv; done)
         · exact fin (.bool true) (.bool true) rfl hv hg (fun w' => by simp [binOp, hq w'])
         · exact fin (.bool false) (.bool false) rfl hv hg (fun w' => by simp [binOp, hq w'])
     · rename_i r xs; have e2 : uy = .slice none 0 0 := hy; subst e2; obtain ⟨h1, h2⟩ := hx; rcases (mC _ _ _ _ _).1 h1 with ⟨h3, _⟩ | ⟨a0, cap, h3, _⟩
       · exact absurd h3 h2
       · subst h3; have hg := fun w' => kN (P := P) (w := w') op t ox oy (.slice (some a0) (List.length xs) cap) (.slice none 0 0) (by simp) (by simp)
         simp only [ue] at hv
         cases he : T.elem t with
         | none => cases op <;> simp [he, N.val] at hv
         | some p =>
           obtain ⟨e, i, z, hu, _⟩ := hT.elem t p.1 p.2 he; have hq := fun w' => run_equal_slice_nil (P := P) w' t e (some a0) (List.length xs) cap hu
           cases op <;> simp only [he] at hv <;> try (simp [N.val] at hv; done)
           · exact fin (.bool false) (.bool false) rfl hv hg (fun w' => by simp [binOp, hq w'])
           · exact fin (.bool true) (.bool true) rfl hv hg (fun w' => by simp [binOp, hq w'])
theorem J6 {P : Program} {T : kh} (hT : fG P T) {t : Nat} (h : T.kind t = some .str) : P.underlying t = some .string := by
 obtain ⟨u, hu, hd⟩ := hT.kind t .str h; simp only [descOf] at hd; rw [hu, hd]
theorem Gi {w0 : World} {mu : Mu} {c : Cz} {st : St} {a : Act} {w : World} (_h : Rel w0 mu c st a w) {a' j g : Nat} {vw : View} {A : gr} {u : Value} (hA : aQ st a' j g = some A)
   (hu : iT c st w (.ref a' j g vw) u) : ∃ ad k, u = .slice ad (vw.app A.xs).length k := by
 have hs := hu.2.2 A hA
 cases hl : c.lc a' j with
 | nil => unfold iB at hs; rw [hl] at hs; exact ⟨none, 0, by rw [hs.2]; exact hs.1⟩
 | «at» b off cap => unfold iB at hs; rw [hl] at hs; obtain ⟨ad, k, h1, _⟩ := hs; exact ⟨some ad, k, h1⟩
theorem PK {P : Program} {T : kh} (hT : fG P T) {w0 : World} {mu : Mu} {c : Cz} {st : St} {a : Act} {w : World} (h : Rel w0 mu c st a w)
   {d : Option Nat} {t ty : Nat} {x : V} {ux : Value} (hx : eo c st w x ux) {aP : St} (hv : (EN T st d t x).val = some aP) (hd : ∀ k, d = some k → k < a.tmps.size) :
   ∃ v, (∀ w' : World, (Builtin.len_ #[t] ty #[ux]).run P w' = .ok v w') ∧ Rel w0 mu c aP (a.put d v) w := by
 have sl : ∀ (n : Nat) (ad : Option Addr) (k : Nat), (T.elem t).isSome = true → ux = .slice ad n k → (N.done (aS st d (.one (.int .i64 n)))).val = some aP →
     ∃ v, (∀ w' : World, (Builtin.len_ #[t] ty #[ux]).run P w' = .ok v w') ∧ Rel w0 mu c aP (a.put d v) w := by
   intro n ad k he hu po; simp only [N.val, Option.some.injEq] at po; subst po
   cases hq : T.elem t with
   | none => simp [hq] at he
   | some p =>
     obtain ⟨r, b⟩ := p; obtain ⟨e, _, _, hd1, _⟩ := hT.elem t r b hq; subst hu; exact ⟨.int .i64 n, (fun w' => by simp [Builtin.len_, run_underlying hd1, goInt]), h.aS (u := .int .i64 n) rfl hd⟩
 cases x with
 | agg _ => simp [EN, N.val] at hv
 | lU _ => simp [EN, N.val] at hv
 | one cx => cases cx with
   | str s =>
     simp only [EN] at hv
     cases hk : T.kind t with
     | none => simp [hk, N.val] at hv
     | some y => cases y with
       | str =>
         simp only [hk, N.val, Option.some.injEq] at hv; subst hv; have e : ux = .string s := hx; subst e; exact ⟨.int .i64 s.size, (fun w' => by simp [Builtin.len_, run_underlying (J6 hT hk), goInt]), h.aS (u := .int .i64 s.size) rfl hd⟩
       | _ => simp [hk, N.val] at hv
   | dL =>
     simp only [EN] at hv
     cases hk : T.elem t with
     | none => simp [hk, N.val] at hv
     | some p => simp only [hk] at hv; exact sl 0 none 0 (by simp [hk]) hx hv
   | shr r xs =>
     simp only [EN] at hv
     cases hk : T.elem t with
     | none => simp [hk, N.val] at hv
     | some p =>
       simp only [hk] at hv; rcases (mC _ _ _ _ _).1 hx with ⟨h1, h2⟩ | ⟨ad, k, h1, _⟩
       · exact sl xs.length none 0 (by simp [hk]) (by rw [h1, h2]; rfl) hv
       · exact sl xs.length (some ad) k (by simp [hk]) h1 hv
   | ref a' j g vw =>
     simp only [EN] at hv
     cases hk : T.elem t with
     | none => simp [hk, N.val] at hv
     | some p =>
       cases hA : aQ st a' j g with
       | none => simp [hk, hA, N.val] at hv
       | some A =>
         simp only [hk, hA] at hv; obtain ⟨ad, k, hu⟩ := Gi h hA hx; exact sl _ ad k (by simp [hk]) hu hv
   | _ => simp [EN, N.val] at hv
theorem Ad {P : Program} {t e : TypeId} {i : TypeInfo} (hu : P.underlying t = some (.slice e)) (hi : P.info? e = some i) (w : World) (k : IntKind) (a : Addr) (n c : Nat) (j : Int) (h0 : 0 ≤ j) (hj : j < n) :
   (Instr.indexAt t (.slice (some a) n c) (.int k j)).run P w = .ok (.pointer (some (a.add (j.toNat * i.size)))) w := by
 simp [Instr.indexAt, asIntOf, run_underlying hu, sizeOf, typeInfo, hi, h0, hj]
theorem KZ {P : Program} {T : kh} (hT : fG P T) {w0 : World} {mu : Mu} {c : Cz} {st : St} {a : Act} {w : World} (h : Rel w0 mu c st a w)
   {d : Option Nat} {t : Nat} {x y : V} {ux uy : Value} (hx : eo c st w x ux) (hy : eo c st w y uy) {aP : St} (hv : (nR T st d t x y).val = some aP) (hd : ∀ k, d = some k → k < a.tmps.size) :
   ∃ v, (∀ w' : World, (Instr.indexAt t ux uy).run P w' = .ok v w') ∧ Rel w0 mu c aP (a.put d v) w := by
 cases ht : T.elem t with
 | none => simp [nR, ht, N.val] at hv
 | some p =>
   obtain ⟨q, bytes⟩ := p; obtain ⟨e, i, z, hu, hi, ki, BB, _, _, _, _⟩ := hT.elem t q bytes ht; have rd : ∀ (ys : List (aq q)) (k : IntKind) (j : Int), uy = .int k j → bL w c.ok (.sl q) ux ys → (N.br (decide (0 ≤ j)) (.row q ys[j.toNat]? fun y => .done (aS st d (.one (.kC q y 0)))) .fail).val = some aP →
       ∃ v, (∀ w' : World, (Instr.indexAt t ux uy).run P w' = .ok v w') ∧ Rel w0 mu c aP (a.put d v) w := by
     intro ys k j huy Bs hv; obtain ⟨hj, hv⟩ := eZ hv; have hj := of_decide_eq_true hj
     cases hr : ys[j.toNat]? with
     | none => simp [hr, N.val] at hv
     | some y =>
       simp only [hr] at hv; change some _ = some aP at hv; obtain rfl := Option.some.inj hv; have bX : j.toNat < ys.length := (List.getElem?_eq_some_iff.1 hr).1; rcases (mC _ _ _ _ _).1 Bs with ⟨_, h2⟩ | ⟨ad, cap, h1, h2, h3, h4⟩
       · rw [h2] at bX; simp at bX
       · subst h1 huy; have fE : ys ≠ [] := by intro e; rw [e] at bX; simp at bX
         obtain ⟨g1, g2, g3⟩ := h3 fE; refine ⟨_, (fun w' => Ad hu hi w' k ad ys.length cap j hj (by omega)), h.aS (v := .one (.kC q y 0)) ?_ hd⟩; have FZ : ad = ⟨ad.block, ad.off, none⟩ := by cases ad; simp at g1 ⊢; exact g1
         refine ⟨ad.block, ad.off + j.toNat * q.width, ?_, g2, g3, h4 _ y hr⟩; rw [FZ, Addr.add_mid, ki]; rfl
   cases x with
   | agg _ => cases y <;> simp [nR, ht, N.val] at hv
   | lU _ => cases y <;> simp [nR, ht, N.val] at hv
   | one cx => cases y with
     | agg _ => cases cx <;> simp [nR, ht, N.val] at hv
     | lU _ => cases cx <;> simp [nR, ht, N.val] at hv
     | one cy => cases cx with
       | shr r xs => cases cy with
         | int k j =>
           simp only [nR, ht] at hv
           cases hc : bA q xs with
           | none => simp [hc, N.val] at hv
           | some ys =>
             simp only [hc] at hv; obtain ⟨rfl, rfl⟩ := a6 hc; exact rd _ k j hy hx hv
         | _ => simp [nR, ht, N.val] at hv
       | ref a' j g vw => cases cy with
         | int k n =>
           simp only [nR, ht] at hv
           cases hA : aQ st a' j g with
           | none => simp [hA, N.val] at hv
           | some A =>
             simp only [hA] at hv
             cases hc : bA q A.xs with
             | none => simp [hc, N.val] at hv
             | some ys =>
               simp only [hc] at hv; obtain ⟨e', he⟩ := a6 hc; subst e'; simp only at he; subst he; obtain ⟨sl, Bq, Pk, Br⟩ := bc hA; have Ga := h.aJ a' j sl A Bq Br
               cases ho : A.own with
               | false =>
                 simp only [ho] at hv; have v8 : A.md = .sh := by
                   cases hm : A.md with
                   | sh => rfl
                   | dp => rw [hm] at hv; simp [Md.is, N.val] at hv
                   | ho _ => rw [hm] at hv; simp [Md.is, N.val] at hv
                 rw [v8] at hv; simp only [Md.is, Bool.not_true, cond_false] at hv; refine rd _ k n hy ?_ hv; refine xQ Ga (hx.2.2 A hA) (fun _ h => h) (fun b hq _ => ?_) (by rw [v8]; rfl); rw [ho, v8] at hq; rcases hq with hq | hq <;> cases hq
               | true =>
                 simp only [ho] at hv; obtain ⟨hn, hv⟩ := eZ hv; obtain ⟨bX, hv⟩ := eZ hv; have hn := of_decide_eq_true hn; have bX : n.toNat < (vw.app A.xs).length := by simp [Nat.blt] at bX; omega
                 simp only [N.val, Option.some.injEq] at hv; subst hv; have hs := hx.2.2 A hA; have euy : uy = .int k n := hy; subst euy
                 cases hl : c.lc a' j with
                 | nil => unfold iB at hs; rw [hl] at hs; omega
                 | «at» b off cap =>
                   unfold iB at hs; rw [hl] at hs; obtain ⟨ad, cc, rfl, hcc, xR, FZ⟩ := hs; have hc0 : cc ≠ 0 := by omega
                   refine ⟨_, (fun w' => Ad hu hi w' k ad _ cc n hn (by omega)), h.aS (v := .one (.F5 a' j g _ 0)) ?_ hd⟩; have aao : vw.idx n.toNat = vw.lo + n.toNat := by cases vw <;> simp [View.lo, View.idx]
                   rw [aao]; have Gj : A.xs[vw.lo + n.toNat]? = some (vw.app A.xs)[n.toNat] := View.vM vw A.xs (List.getElem?_eq_getElem bX); refine ⟨rfl, hx.2.1, fun A2 Iq => ?_⟩; rw [hA] at Iq; obtain rfl := Option.some.inj Iq; refine ⟨(List.getElem?_eq_some_iff.1 Gj).1, b, off, cap, hl, ?_⟩; rw [FZ hc0, Addr.add_mid, ki, Nat.add_mul]; simp only [Nat.add_zero]; rw [Nat.add_assoc]
         | _ => simp [nR, ht, N.val] at hv
       | _ => cases cy <;> simp [nR, ht, N.val] at hv
end Go.TM
namespace Go.TM
open Go Go.RowKit
def Gk (c : Cz) (st : St) (w : World) : Option V → Option Value → Prop
 | none, u => u = none
 | some v, u => ∃ x, u = some x ∧ eo c st w v x
def Bd (o : Option Value) (l : Option Nat) : Prop :=
 match l with
 | none => o = none
 | some l => ∃ k, o = some (.int k l)
theorem na {c : Cz} {st : St} {w : World} {n : Nat} {lo hi : Option V} {ul uh : Option Value} (hl : Gk c st w lo ul) (hh : Gk c st w hi uh) {k : Option Nat → Option Nat → N} {aP : St}
   (hv : (mH n lo hi k).val = some aP) : ∃ l h, (k l h).val = some aP ∧ Bd ul l ∧ Bd uh h ∧ l.getD 0 ≤ h.getD n ∧ h.getD n ≤ n := by
 unfold mH at hv; simp only at hv; have hiC : ∀ (l : Option Nat), (hi = none → l.getD 0 ≤ n) → (match hi with
     | none => k l none
     | some (.one (.int _ h)) => .br (decide ((match l with | some l => (l : Int) | none => 0) ≤ h)) (.br (decide (h ≤ n)) (k l (some h.toNat)) .fail) .fail
     | _ => .fail).val = some aP → ∃ h, (k l h).val = some aP ∧ Bd uh h ∧ l.getD 0 ≤ h.getD n ∧ h.getD n ≤ n := by
   intro l hln hv
   cases hi with
   | none => exact ⟨none, hv, hh, hln rfl, Nat.le_refl _⟩
   | some v => cases v with
     | agg _ => simp [N.val] at hv
     | lU _ => simp [N.val] at hv
     | one x => cases x with
       | int q h =>
         simp only at hv; obtain ⟨h1, hv⟩ := eZ hv; obtain ⟨h2, hv⟩ := eZ hv; have h1 := of_decide_eq_true h1; have h2 := of_decide_eq_true h2; obtain ⟨x, rfl, hx⟩ := hh; have e : x = .int q h := hx; subst e; have h0 : 0 ≤ h := by cases l <;> simp at h1 <;> omega
         refine ⟨some h.toNat, hv, ⟨q, by rw [Int.toNat_of_nonneg h0]⟩, ?_, by simp; omega⟩
         cases l <;> simp at h1 ⊢; omega
       | _ => simp [N.val] at hv
 cases lo with
 | none =>
   obtain ⟨h, g1, g2, g3, g4⟩ := hiC none (fun _ => Nat.zero_le _) hv; exact ⟨none, h, g1, hl, g2, g3, g4⟩
 | some v => cases v with
   | agg _ => simp [N.val] at hv
   | lU _ => simp [N.val] at hv
   | one x => cases x with
     | int q l =>
       simp only at hv; obtain ⟨h1, hv⟩ := eZ hv; have h1 := of_decide_eq_true h1; obtain ⟨x, rfl, hx⟩ := hl; have e : x = .int q l := hx; subst e; have hb : Bd (some (.int q l)) (some l.toNat) := ⟨q, by rw [Int.toNat_of_nonneg h1]⟩
       cases hi with
       | none =>
         simp only at hv; obtain ⟨h2, hv⟩ := eZ hv; have h2 := of_decide_eq_true h2; obtain ⟨h, g1, g2, g3, g4⟩ := hiC (some l.toNat) (fun _ => by simp; omega) hv; exact ⟨some l.toNat, h, g1, hb, g2, g3, g4⟩
       | some v =>
         obtain ⟨h, g1, g2, g3, g4⟩ := hiC (some l.toNat) (fun e => by cases e) hv; exact ⟨some l.toNat, h, g1, hb, g2, g3, g4⟩
     | _ => simp [N.val] at hv
theorem BH {P : Program} {w : World} {n cap : Nat} {ul uh : Option Value} {l h : Option Nat} (b : Bool) (hl : Bd ul l) (hh : Bd uh h) (h1 : l.getD 0 ≤ h.getD n) (h2 : h.getD n ≤ n) (hc : n ≤ cap) :
   (Instr.sliceBounds b n cap ul uh none).run P w = .ok (l.getD 0, h.getD n, cap) w := by
 have key : ∀ (q : IntKind) (y m : Nat) (code : BoundsCode), y ≤ m → (Instr.sliceBound (.int q y) m code).run P w = .ok y w := by
   intro q y m code hy; simp [Instr.sliceBound, asIntOf, hy]
 cases l with
 | none =>
   simp only [Bd] at hl; subst hl
   cases h with
   | none =>
     simp only [Bd] at hh; subst hh; simp [Instr.sliceBounds]
   | some h =>
     obtain ⟨q, rfl⟩ := hh; simp at h2; simp [Instr.sliceBounds, key q h cap _ (by omega)]
 | some l =>
   obtain ⟨q, rfl⟩ := hl
   cases h with
   | none =>
     simp only [Bd] at hh; subst hh; simp at h1; simp [Instr.sliceBounds, key q l n _ h1]
   | some h =>
     obtain ⟨q', rfl⟩ := hh; simp at h1 h2; simp [Instr.sliceBounds, key q' h cap _ (by omega), key q l h _ h1]
theorem View.J7 {α : Type} (w : View) (xs : List α) (l h : Option Nat) (h1 : l.getD 0 ≤ h.getD (w.app xs).length) (h2 : h.getD (w.app xs).length ≤ (w.app xs).length) :
   (w.of (w.app xs).length l h).lo = w.lo + l.getD 0 ∧ ((w.of (w.app xs).length l h).app xs).length = h.getD (w.app xs).length - l.getD 0 := by
 cases w with
 | full => cases l <;> cases h <;> simp [View.of, View.lo, View.app] at h1 h2 ⊢ <;> omega
 | «from» a => cases l <;> cases h <;> simp [View.of, View.lo, View.app] at h1 h2 ⊢ <;> omega
 | sub a m => cases l <;> cases h <;> simp [View.of, View.lo, View.app] at h1 h2 ⊢ <;> omega
theorem K0 (n : Nat) (l h : Option Nat) : H7 n l h = View.full.of n l h := by
 cases l <;> cases h <;> simp [H7, View.of, View.lo]
theorem nu {P : Program} {t e : TypeId} {i : TypeInfo} (hu : P.underlying t = some (.slice e)) (hi : P.info? e = some i) {w : World} {a : Option Addr} {n cap : Nat} {ul uh : Option Value} {l h : Option Nat}
   (hl : Bd ul l) (hh : Bd uh h) (h1 : l.getD 0 ≤ h.getD n) (h2 : h.getD n ≤ n) (hc : n ≤ cap) :
   (Instr.sliceAt t (.slice a n cap) ul uh none).run P w = .ok (.slice (if cap = l.getD 0 then a else a.map (·.add (l.getD 0 * i.size))) (h.getD n - l.getD 0) (cap - l.getD 0)) w := by
 have hb := BH (P := P) (w := w) true hl hh h1 h2 hc; simp [Instr.sliceAt, Instr.slice, run_underlying hu, sizeOf, typeInfo, hi, hb]
theorem K1 {P : Program} {T : kh} (hT : fG P T) {w0 : World} {mu : Mu} {c : Cz} {st : St} {a : Act} {w : World} (h : Rel w0 mu c st a w)
   {d : Option Nat} {t : Nat} {x : V} {ux : Value} {lo hi : Option V} {ul uh : Option Value} (hx : eo c st w x ux) (hl : Gk c st w lo ul) (hh : Gk c st w hi uh) {aP : St}
   (hv : (sq T st d t x lo hi).val = some aP) (hd : ∀ k, d = some k → k < a.tmps.size) :
   ∃ v, (∀ w' : World, (Instr.sliceAt t ux ul uh none).run P w' = .ok v w') ∧ Rel w0 mu c aP (a.put d v) w := by
 cases x with
 | agg _ => simp [sq, N.val] at hv
 | lU _ => simp [sq, N.val] at hv
 | one cx => cases cx with
   | str s =>
     simp only [sq] at hv
     cases hk : T.kind t with
     | none => simp [hk, N.val] at hv
     | some y => cases y with
       | str =>
         simp only [hk] at hv; obtain ⟨l, q, hv, g1, g2, g3, g4⟩ := na hl hh hv; simp only [N.val, Option.some.injEq] at hv; subst hv; have e : ux = .string s := hx; subst e; have hb := fun w' : World => BH (P := P) (w := w') false g1 g2 g3 g4 (Nat.le_refl _)
         refine ⟨.string (s.extract (l.getD 0) (q.getD s.size)), (fun w' => by simp [Instr.sliceAt, Instr.slice, run_underlying (J6 hT hk), hb w']), ?_⟩; exact h.aS (v := .one (.str _)) rfl hd
       | _ => simp [hk, N.val] at hv
   | dL =>
     simp only [sq] at hv
     cases hk : T.elem t with
     | none => simp [hk, N.val] at hv
     | some p =>
       obtain ⟨r, b⟩ := p; simp only [hk] at hv; obtain ⟨e, i, z, hu, hi, _⟩ := hT.elem t r b hk; obtain ⟨l, q, hv, g1, g2, g3, g4⟩ := na hl hh hv; simp only [N.val, Option.some.injEq] at hv; subst hv; have eu : ux = .slice none 0 0 := hx; subst eu; have hr := fun w' : World => nu (P := P) (w := w') (a := none) hu hi g1 g2 g3 g4 (Nat.le_refl 0)
       have e1 : l.getD 0 = 0 := by omega
       have e2 : q.getD 0 = 0 := by omega
       simp only [e1, e2] at hr; exact ⟨_, hr, h.aS (v := .one .dL) rfl hd⟩
   | shr r xs =>
     simp only [sq] at hv
     cases hk : T.elem t with
     | none => simp [hk, N.val] at hv
     | some p =>
       obtain ⟨r', b⟩ := p; simp only [hk] at hv
       cases hc : bA r' xs with
       | none => simp [hc, N.val] at hv
       | some ys =>
         simp only [hc] at hv; obtain ⟨rfl, hq⟩ := a6 hc
         replace hq : xs = ys := hq.symm
         subst hq; obtain ⟨e, i, z, hu, hi, ki, BB, _⟩ := hT.elem t r b hk; obtain ⟨l, q, hv, g1, g2, g3, g4⟩ := na hl hh hv; simp only [N.val, Option.some.injEq] at hv; subst hv; have qz := View.J7 .full xs l q g3 g4; rw [K0]; rcases (mC _ _ _ _ _).1 hx with ⟨rfl, rfl⟩ | ⟨ad, cap, rfl, h2, h3, h4⟩
         · have hr := fun w' : World => nu (P := P) (w := w') (a := none) hu hi g1 g2 g3 g4 (Nat.le_refl 0)
           simp at g3 g4; have e1 : l.getD 0 = 0 := by omega
           have e2 : q.getD 0 = 0 := by omega
           simp only [e1, show q.getD ([] : List (aq r)).length = 0 from e2] at hr; refine ⟨_, hr, h.aS (v := .one (.shr r _)) ?_ hd⟩; refine (mC _ _ _ _ _).2 (.inl ⟨rfl, ?_⟩); have := qz.2; simp [View.app] at this ⊢
           cases hw : View.full.of 0 l q <;> simp
         · have hr := fun w' : World => nu (P := P) (w := w') (a := some ad) hu hi g1 g2 g3 g4 h2
           refine ⟨_, hr, h.aS (v := .one (.shr r _)) ?_ hd⟩; have hlen : ((View.full.of xs.length l q).app xs).length = q.getD xs.length - l.getD 0 := qz.2; refine (mC _ _ _ _ _).2 (.inr ⟨if cap = l.getD 0 then ad else ad.add (l.getD 0 * i.size), cap - l.getD 0, ?_, by rw [hlen]; omega, fun fE => ?_, fun j y hy => ?_⟩)
           · rw [hlen]
             congr 1
             by_cases e : cap = l.getD 0 <;> simp [e]
           · have hp : 0 < q.getD xs.length - l.getD 0 := by rw [← hlen]; exact List.length_pos_iff.2 fE
             have Sd : xs ≠ [] := by intro e; subst e; simp at g4 hp; omega
             obtain ⟨k1, k2, k3⟩ := h3 Sd; have FZ : ad = ⟨ad.block, ad.off, none⟩ := by cases ad; simp at k1 ⊢; exact k1
             rw [if_neg (by omega), FZ, Addr.add_mid]; exact ⟨rfl, k2, k3⟩
           · have hj : j < q.getD xs.length - l.getD 0 := by rw [← hlen]; exact (List.getElem?_eq_some_iff.1 hy).1
             have Sd : xs ≠ [] := by intro e; subst e; simp at g4 hj; omega
             obtain ⟨k1, k2, k3⟩ := h3 Sd; have FZ : ad = ⟨ad.block, ad.off, none⟩ := by cases ad; simp at k1 ⊢; exact k1
             rw [if_neg (by omega), FZ, Addr.add_mid]; have Gj := View.vM (View.full.of xs.length l q) xs hy; rw [show (View.full.of xs.length l q).lo = l.getD 0 by have h9 : (View.full.of xs.length l q).lo = View.full.lo + l.getD 0 := qz.1; rw [h9]; simp [View.lo]] at Gj; have := h4 _ y Gj; rw [Nat.add_mul] at this; rw [ki]; simp only; rw [Nat.add_assoc]; exact this
   | ref a' j g vw =>
     simp only [sq] at hv
     cases hk : T.elem t with
     | none => simp [hk, N.val] at hv
     | some p =>
       obtain ⟨r', b⟩ := p; simp only [hk] at hv
       cases hA : aQ st a' j g with
       | none => simp [hA, N.val] at hv
       | some A =>
         simp only [hA] at hv
         cases hc : bA r' A.xs with
         | none => simp [hc, N.val] at hv
         | some ys =>
           simp only [hc] at hv; obtain ⟨e', he⟩ := a6 hc; subst e'; simp only at he; subst he; obtain ⟨e, i, z, hu, hi, ki, BB, _⟩ := hT.elem t A.r b hk; obtain ⟨l, q, hv, g1, g2, g3, g4⟩ := na hl hh hv; simp only [N.val, Option.some.injEq] at hv; subst hv; have qz := View.J7 vw A.xs l q g3 g4; have hs := hx.2.2 A hA
           cases gz : c.lc a' j with
           | nil =>
             unfold iB at hs; rw [gz] at hs; obtain ⟨rfl, hn⟩ := hs; rw [hn] at g3 g4; have hr := fun w' : World => nu (P := P) (w := w') (a := none) hu hi g1 g2 g3 g4 (Nat.le_refl 0)
             have e1 : l.getD 0 = 0 := by omega
             have e2 : q.getD 0 = 0 := by omega
             simp only [e1, e2] at hr; refine ⟨_, hr, h.aS (v := .one (.ref a' j g _)) ⟨rfl, hx.2.1, fun A2 Iq => ?_⟩ hd⟩; rw [hA] at Iq; obtain rfl := Option.some.inj Iq; rw [gz]; refine ⟨by simp, ?_⟩; rw [qz.2, hn]; omega
           | «at» bb off cap =>
             unfold iB at hs; rw [gz] at hs; obtain ⟨ad, cc, rfl, hcc, xR, FZ⟩ := hs; have hr := fun w' : World => nu (P := P) (w := w') (a := some ad) hu hi g1 g2 g3 g4 hcc
             refine ⟨_, hr, h.aS (v := .one (.ref a' j g _)) ⟨?_, hx.2.1, fun A2 Iq => ?_⟩ hd⟩
             · by_cases e : cc = l.getD 0 <;> simp [e, Value.oneCell']
             · rw [hA] at Iq; obtain rfl := Option.some.inj Iq; rw [gz]; refine ⟨if cc = l.getD 0 then ad else ad.add (l.getD 0 * i.size), cc - l.getD 0, ?_, by rw [qz.2]; omega, by rw [qz.1]; omega, fun fE => ?_⟩
               · rw [qz.2]
                 congr 1
                 by_cases e : cc = l.getD 0 <;> simp [e]
               · rw [if_neg (by omega), FZ (by omega), Addr.add_mid, qz.1, ki, Nat.add_mul, Nat.add_assoc]
   | _ => simp [sq, N.val] at hv
end Go.TM
namespace Go.TM
open Go Go.RowKit
theorem Fw.grow {w0 : World} {mu : Mu} {c : Cz} {st : St} {a : Act} {w : World} (h : Rel w0 mu c st a w) (o : Obj) : Fw c st w c st (w.alloc o) where
 stays := uz w _ _ _ fun _ _ h => h
 refs a' j g A' _ eb := ⟨A', eb, rfl, rfl, rfl, fun _ => ⟨rfl, fun b oo cap gz => heap_alloc_old w _ b ((h.rH (g := g) eb).lt gz)⟩⟩
 AR _ _ lV _ hb := ⟨⟨lV, hb⟩, rfl⟩
 gA _ := Nat.le_refl _
 gB _ := Nat.le_refl _
 gE _ := Nat.le_refl _
theorem Rel.grow {w0 : World} {mu : Mu} {c : Cz} {st : St} {a : Act} {w : World} (h : Rel w0 mu c st a w) (o : Obj) : Rel w0 mu c st a (w.alloc o) where
 eL t := (Fw.grow h o).lO (h.eL t)
 boxes s sl cs hs hb := by
   have RU := h.boxes s sl cs hs hb; exact RU.go (Fw.grow h o) rfl rfl (heap_alloc_old w _ _ (h.mJ RU.1))
 aJ s j sl A hs hA := (h.aJ s j sl A hs hA).go (Fw.grow h o).stays rfl fun b hb => ⟨heap_alloc_old w _ b (h.mJ hb), rfl⟩
 owned b l hb := ⟨Nat.lt_of_lt_of_le (h.owned b l hb).1 (by simp), (h.owned b l hb).2⟩
 free := h.free
 kept := ⟨h.kept.1, h.kept.2.1, h.kept.2.2.1, Nat.le_trans h.kept.2.2.2 (by simp)⟩
 old k hk hm := by
   rw [heap_alloc_old w _ k (Nat.lt_of_lt_of_le hk h.kept.2.2.2)]; exact h.old k hk hm
 dR p hp := (Fw.grow h o).dR (h.dR p hp)
 plain := h.plain
theorem eK.WA {c : Cz} {st : St} {w : World} {x : CV} {cs : List CV} {vs : List Value} (h : eK c st w (x :: cs) vs) : ∃ v l, vs = v :: l ∧ iT c st w x v ∧ eK c st w cs l := by
 obtain ⟨h1, h2⟩ := h
 cases vs with
 | nil => simp at h1
 | cons v l => exact ⟨v, l, rfl, h2 0 x v rfl rfl, by simpa using h1, fun i y u hy hu => h2 (i + 1) y u (by simpa using hy) (by simpa using hu)⟩
theorem PL {w : World} {ok : Nat → Prop} {b off : Nat} (x : aq .nil) : cq w ok .nil b off x := by unfold cq; trivial
theorem x8 {w : World} {ok : Nat → Prop} {t : Ty} {r : RT} {b off : Nat} {x : aq (.cons t r)} : cq w ok (.cons t r) b off x ↔ (∃ v, w.cell? ⟨b, off, none⟩ = some v ∧ bL w ok t v x.1) ∧ cq w ok r b (off + 1) x.2 := by
 constructor
 · intro h; unfold cq at h; exact h
 · intro h; unfold cq; exact h
theorem lE {c : Cz} {st : St} {w w' : World} {ok : Nat → Prop} (hs : ir w w' c.ok ok) {b : Nat} : (cs : List CV) → {r : RT} → {x : aq r} → dQ cs = some ⟨r, x⟩ → (vs : List Value) → (off : Nat) → eK c st w cs vs → (∀ (i : Nat) v, vs[i]? = some v → w'.cell? ⟨b, off + i, none⟩ = some v) → cq w' ok r b off x
 | [], r, x, h, vs, off, _, _ => by
   unfold dQ at h
   cases h
   exact PL _
 | cx :: cs, r, x, h, vs, off, hl, hc => by
   obtain ⟨v, l, rfl, hx, wk⟩ := hl.WA; have h0 := hc 0 v rfl; rw [Nat.add_zero] at h0; have eP : ∀ (i : Nat) u, l[i]? = some u → w'.cell? ⟨b, off + 1 + i, none⟩ = some u := fun i u hu => by
     have := hc (i + 1) u hu
     rwa [show off + (i + 1) = off + 1 + i by omega] at this
   cases cx with
   | int k n =>
     unfold dQ at h
     cases hq : dQ cs with
     | none => rw [hq] at h; cases h
     | some p =>
       obtain ⟨r0, x0⟩ := p; rw [hq] at h
       cases h
       have ih := lE hs cs hq l (off + 1) wk eP; exact x8.2 ⟨⟨v, h0, pD.2 hx⟩, ih⟩
   | bool n =>
     unfold dQ at h
     cases hq : dQ cs with
     | none => rw [hq] at h; cases h
     | some p =>
       obtain ⟨r0, x0⟩ := p; rw [hq] at h
       cases h
       have ih := lE hs cs hq l (off + 1) wk eP; exact x8.2 ⟨⟨v, h0, qN.2 hx⟩, ih⟩
   | str n =>
     unfold dQ at h
     cases hq : dQ cs with
     | none => rw [hq] at h; cases h
     | some p =>
       obtain ⟨r0, x0⟩ := p; rw [hq] at h
       cases h
       have ih := lE hs cs hq l (off + 1) wk eP; exact x8.2 ⟨⟨v, h0, ur.2 hx⟩, ih⟩
   | shr q xs =>
     unfold dQ at h
     cases hq : dQ cs with
     | none => rw [hq] at h; cases h
     | some p =>
       obtain ⟨r0, x0⟩ := p; rw [hq] at h
       cases h
       have ih := lE hs cs hq l (off + 1) wk eP; exact x8.2 ⟨⟨v, h0, bL.stays hs _ _ _ hx⟩, ih⟩
   | _ => simp [dQ] at h
def Cz.tU (c : Cz) (s : Nat) : Cz :=
 { c with own := fun k => match c.own k with | some (.box t) => if t = s then none else some (.box t) | l => l }
theorem Cz.Ni {c : Cz} {s b : Nat} (h : c.ok b) : (c.tU s).ok b := by
 unfold Cz.ok Cz.tU at *; simp [h]
theorem Cz.DY {c : Cz} {s b : Nat} (h : c.own b = some (.box s)) : (c.tU s).ok b := by
 unfold Cz.ok Cz.tU; simp [h]
theorem Cz.BI {c : Cz} {s b : Nat} {l : Lb} (h : c.own b = some l) (fE : l ≠ .box s) : (c.tU s).own b = some l := by
 unfold Cz.tU; simp only [h]
 cases l with
 | box t =>
   simp only; rw [if_neg]
   rintro rfl
   exact fE rfl
 | _ => rfl
theorem Cz.Ir {c : Cz} {s b : Nat} {l : Lb} (h : (c.tU s).own b = some l) : c.own b = some l := by
 unfold Cz.tU at h; simp only at h
 cases hc : c.own b with
 | none => simp [hc] at h
 | some l' => cases l' with
   | box t =>
     simp only [hc] at h
     by_cases e : t = s
     · simp [e] at h
     · rw [if_neg e] at h; exact h
   | _ => simp [hc] at h; rw [h]
theorem qR (st : St) (b s : Nat) : nth (fk st b) s = if s = b then (nth st s).map (fun x => { x with box := none }) else nth st s := by
 unfold fk; rw [dz]
theorem km (st : St) (b s : Nat) : bW (fk st b) s = bW st s ∧ cW (fk st b) s = cW st s ∧ fL (fk st b) s = fL st s ∧ lh (fk st b) s = lh st s ∧ ∀ j g, aQ (fk st b) s j g = aQ st s j g := by
 unfold bW cW fL lh aQ; rw [qR]
 by_cases e : s = b
 · rw [if_pos e]
   cases nth st s <;> simp
 · rw [if_neg e]; simp
theorem E1 {st : St} {b s g : Nat} {cs : List CV} (h : dx (fk st b) s g = some cs) : s ≠ b ∧ dx st s g = some cs := by
 unfold dx at h ⊢; rw [qR] at h
 by_cases e : s = b
 · rw [if_pos e] at h
   cases hx : nth st s with
   | none => rw [hx] at h; cases h
   | some x =>
     rw [hx] at h; simp only [Option.map_some] at h
     cases hb : Nat.beq x.bg g <;> rw [hb] at h <;> cases h
 · rw [if_neg e] at h; exact ⟨e, h⟩
theorem Fw.fk (c : Cz) (st : St) (w : World) (s : Nat) : Fw c st w (c.tU s) (fk st s) w where
 stays := ⟨Nat.le_refl _, fun _ _ _ => rfl, fun _ _ h => Cz.Ni h⟩
 refs a' j' g A' _ eb := ⟨A', by rwa [(km st s a').2.2.2.2] at eb, rfl, rfl, rfl, fun _ => ⟨rfl, fun _ _ _ _ => rfl⟩⟩
 AR b g lV _ h := ⟨⟨lV, (E1 h).2⟩, rfl⟩
 gA b := by rw [(km st s b).2.1]; exact Nat.le_refl _
 gB b := by rw [(km st s b).2.2.1]; exact Nat.le_refl _
 gE b := by rw [(km st s b).2.2.2.1]; exact Nat.le_refl _
theorem Rel.fk {w0 : World} {mu : Mu} {c : Cz} {st : St} {a : Act} {w : World} (h : Rel w0 mu c st a w) (s : Nat) : Rel w0 mu (c.tU s) (fk st s) a w where
 eL t := by rw [(km st s t).1]; exact (Fw.fk c st w s).lO (h.eL t)
 boxes b sl cs hs hb := by
   rw [qR] at hs
   by_cases e : b = s
   · rw [if_pos e] at hs
     cases hx : nth st b with
     | none => rw [hx] at hs; cases hs
     | some x => rw [hx] at hs; simp at hs; subst hs; cases hb
   · rw [if_neg e] at hs; have h0 := h.boxes b sl cs hs hb; exact h0.go (Fw.fk c st w s) rfl (by rw [h0.1]; exact Cz.BI h0.1 (by intro e'; injection e' with e'; exact e e')) rfl
 aJ b i sl A hs hb := by
   rw [qR] at hs; have h0 : bM c w b i A := by
     by_cases e : b = s
     · rw [if_pos e] at hs
       cases hx : nth st b with
       | none => rw [hx] at hs; cases hs
       | some x => rw [hx] at hs; simp at hs; subst hs; exact h.aJ b i x A hx hb
     · rw [if_neg e] at hs; exact h.aJ b i sl A hs hb
   exact h0.go (Fw.fk c st w s).stays rfl fun k h1 => ⟨rfl, by rw [h1]; exact Cz.BI h1 (by intro e; cases e)⟩
 owned b l hb := h.owned b l (Cz.Ir hb)
 free b hb h1 := by
   cases hc : c.own b with
   | none => exact h.free b hb hc
   | some l =>
     rcases (h.owned b l hc).2 with h2 | h2 | h2
     · subst h2; unfold Cz.tU at h1; simp [hc] at h1
     · omega
     · exact .inl h2
 kept := h.kept
 old := h.old
 dR p hp := (Fw.fk c st w s).dR (h.dR p hp)
 plain := h.plain
theorem Gl {w : World} {b : Nat} {vs : Array Value} {ty : TypeId} (h : w.heap[b]? = some (.cells vs ty (0, 0))) {i : Nat} {v : Value} (hv : vs.toList[i]? = some v) : w.cell? ⟨b, i, none⟩ = some v := by
 unfold World.cell?; simp [h]; simpa using hv
theorem zm (st : St) (b g : Nat) (r : RT) (x : aq r) : (s : Nat) → nth (lZ st b g r x) s = (nth st s).map fun z => { z with v := Z6 b g r x z.v } := by
 unfold lZ
 induction st with
 | nil => intro s; rfl
 | cons y st ih => intro s; cases s with
   | zero => rfl
   | succ s => exact ih s
theorem mM (st : St) (b g : Nat) (r : RT) (x : aq r) (s : Nat) : bW (lZ st b g r x) s = Z6 b g r x (bW st s) ∧ cW (lZ st b g r x) s = cW st s ∧ fL (lZ st b g r x) s = fL st s ∧ lh (lZ st b g r x) s = lh st s ∧ (∀ j g', aQ (lZ st b g r x) s j g' = aQ st s j g') ∧ ∀ g', dx (lZ st b g r x) s g' = dx st s g' := by
 unfold bW cW fL lh aQ dx; rw [zm]
 cases nth st s with
 | none => exact ⟨rfl, rfl, rfl, rfl, fun _ _ => rfl, fun _ => rfl⟩
 | some z => exact ⟨rfl, rfl, rfl, rfl, fun _ _ => rfl, fun _ => rfl⟩
theorem Fw.lZ (c : Cz) (st : St) (w : World) (b g : Nat) (r : RT) (x : aq r) : Fw c st w c (lZ st b g r x) w where
 stays := ⟨Nat.le_refl _, fun _ _ _ => rfl, fun _ _ h => h⟩
 refs a' j' g' A' _ eb := ⟨A', by rwa [(mM st b g r x a').2.2.2.2.1] at eb, rfl, rfl, rfl, fun _ => ⟨rfl, fun _ _ _ _ => rfl⟩⟩
 AR b' g' lV _ h := ⟨⟨lV, by rwa [(mM st b g r x b').2.2.2.2.2] at h⟩, rfl⟩
 gA s := by rw [(mM st b g r x s).2.1]; exact Nat.le_refl _
 gB s := by rw [(mM st b g r x s).2.2.1]; exact Nat.le_refl _
 gE s := by rw [(mM st b g r x s).2.2.2.1]; exact Nat.le_refl _
theorem Rel.lZ {w0 : World} {mu : Mu} {c : Cz} {st : St} {a : Act} {w : World} (h : Rel w0 mu c st a w) {b g : Nat} {r : RT} {x : aq r} (hp : ∀ t off, bW st t = .one (.ptr b g off) → iT c st w (.kC r x off) (a.eval (.tmp t))) : Rel w0 mu c (lZ st b g r x) a w where
 eL t := by
   rw [(mM st b g r x t).1]; have h0 := (Fw.lZ c st w b g r x).lO (h.eL t)
   cases hv : bW st t with
   | one cv => cases cv with
     | ptr b' g' off =>
       rw [hv] at h0; show eo c (TM.lZ st b g r x) w (bif Nat.beq b' b && Nat.beq g' g then .one (.kC r x off) else .one (.ptr b' g' off)) (a.eval (.tmp t))
       cases hb : Nat.beq b' b && Nat.beq g' g with
       | false => exact h0
       | true =>
         rw [Bool.and_eq_true] at hb; have e1 := Nat.eq_of_beq_eq_true hb.1; have e2 := Nat.eq_of_beq_eq_true hb.2; subst e1 e2; exact hp t off hv
     | _ => rw [hv] at h0; exact h0
   | agg _ => rw [hv] at h0; exact h0
   | lU _ => rw [hv] at h0; exact h0
 boxes s sl cs hs hb := by
   rw [zm] at hs; obtain ⟨z, hz, rfl⟩ := Option.map_eq_some_iff.1 hs; have h0 := h.boxes s z cs hz hb; exact h0.go (Fw.lZ c st w b g r x) rfl (by rw [h0.1]) rfl
 aJ s j sl A hs hA := by
   rw [zm] at hs; obtain ⟨z, hz, rfl⟩ := Option.map_eq_some_iff.1 hs; exact h.aJ s j z A hz hA
 owned := h.owned
 free := h.free
 kept := h.kept
 old := h.old
 plain := h.plain
 dR p hp := (Fw.lZ c st w b g r x).dR (h.dR p hp)
theorem PM {w0 : World} {mu : Mu} {c : Cz} {st aP : St} {a : Act} {w : World} (h : Rel w0 mu c st a w) {t : Nat} {r : RT} {ys : List (aq r)} (hc : Py st t = some (aP, ⟨r, ys⟩)) :
   ∃ c', Rel w0 mu c' aP a w ∧ Fw c st w c' aP w ∧ DP w c'.ok r (a.eval (.tmp t)) ys := by
 have hx := h.eL t; unfold Py at hc
 split at hc
 · rename_i r' x' off e; obtain ⟨h1, hc⟩ := aH hc; have h1 := Nat.eq_of_beq_eq_true h1; subst h1
   cases hc
   rw [e] at hx; obtain ⟨b, o, e1, e2, e3, e4⟩ := hx; refine ⟨c, h, Fw.refl c st w, b, o, e1, e2, e3, fun y hy => ?_⟩; simp at hy; subst hy; exact e4
 · rename_i r' xs off e; obtain ⟨h1, hc⟩ := aH hc; have h1 := Nat.eq_of_beq_eq_true h1; subst h1
   cases hc
   rw [e] at hx; obtain ⟨b, o, e1, e2, e3, e4⟩ := hx; exact ⟨c, h, Fw.refl c st w, b, o, e1, e2, e3, e4⟩
 · rename_i b g off e
   cases hb : dx st b g with
   | none => rw [hb] at hc; cases hc
   | some cs =>
     rw [hb] at hc; simp only at hc; obtain ⟨h1, hc⟩ := aH hc; have h1 := Nat.eq_of_beq_eq_true h1; subst h1
     cases hp : dQ cs with
     | none => rw [hp] at hc; cases hc
     | some p =>
       obtain ⟨r0, x0⟩ := p; rw [hp] at hc
       cases hc
       rw [e] at hx; have hu := hx.2.2 cs hb; obtain ⟨sl, Bq, Pk, Br⟩ := gw hb; obtain ⟨ho, vs, ty, hh, hl⟩ := h.boxes b sl cs Bq Br; have Bs : cq w (c.tU b).ok r (c.bx b) 0 x0 := by
         refine lE (Fw.fk c st w b).stays cs hp vs.toList 0 hl fun i v hv => ?_
         rw [Nat.zero_add]; exact Gl hh hv
       refine ⟨_, (h.fk b).lZ (fun t' Wo hv => ?_), (Fw.fk c st w b).trans (Fw.lZ _ _ w _ _ _ _), c.bx b, 0, hu, h.mJ ho, Cz.DY ho, fun y hy => ?_⟩
       · rw [(km st b t').1] at hv; have h2 := h.eL t'; rw [hv] at h2; have hu2 := h2.2.2 cs hb; exact ⟨c.bx b, 0, by rw [Nat.zero_add]; exact hu2, h.mJ ho, Cz.DY ho, Bs⟩
       · simp at hy; subst hy; exact Bs
 · cases hc
theorem Gm {w0 : World} {mu : Mu} {a : Act} {w : World} : (l : List Operand) → {c : Cz} → {st aP : St} → Rel w0 mu c st a w → {rs : RT} → {x : aq rs} → wj st l = some (aP, ⟨rs, x⟩) →
   ∃ c', Rel w0 mu c' aP a w ∧ Fw c st w c' aP w ∧ sx w c'.ok rs (l.map a.eval) x
 | [], c, st, aP, h, rs, x, hc => by
   unfold wj at hc
   cases hc
   exact ⟨c, h, Fw.refl c st w, rfl⟩
 | .tmp t :: l, c, st, aP, h, rs, x, hc => by
   unfold wj at hc
   cases h1 : Py st t with
   | none => rw [h1] at hc; cases hc
   | some p =>
     obtain ⟨zi, r, y⟩ := p; rw [h1] at hc; simp only at hc
     cases h2 : wj zi l with
     | none => rw [h2] at hc; cases hc
     | some p =>
       obtain ⟨gm, rs0, ys⟩ := p; rw [h2] at hc
       cases hc
       obtain ⟨c1, k1, k2, k3⟩ := PM h h1; obtain ⟨c2, g1, g2, g3⟩ := Gm l k1 h2; exact ⟨c2, g1, k2.trans g2, _, _, rfl, k3.stays g2.stays, g3⟩
 | .const _ :: _, _, _, _, _, _, _, hc => by simp [wj] at hc
 | .func _ :: _, _, _, _, _, _, _, hc => by simp [wj] at hc
 | .global _ :: _, _, _, _, _, _, _, hc => by simp [wj] at hc
theorem Gn {c : Cz} {st : St} {w : World} : (rs : RT) → (vs : List Value) → (x : aq rs) → sx w c.ok rs vs x → (tS rs x).length = vs.length ∧ ∀ (k : Nat) v u, (tS rs x)[k]? = some v → vs[k]? = some u → eo c st w v u
 | .nil, vs, x, h => by
   subst h; exact ⟨rfl, fun k v u hv => by simp [tS] at hv⟩
 | .cons (.sl r) rs, vs, x, h => by
   obtain ⟨v0, l, rfl, ⟨b, o, e1, e2, e3, e4⟩, h2⟩ := h; obtain ⟨g1, g2⟩ := Gn (c := c) (st := st) rs l x.2 h2; refine ⟨by simp [tS, g1], fun k v u hv hu => ?_⟩
   cases k with
   | zero =>
     simp only [tS, List.getElem?_cons_zero, Option.some.injEq] at hv hu; subst hv hu; exact ⟨b, o, by rw [Nat.add_zero]; exact e1, e2, e3, e4⟩
   | succ k => exact g2 k v u (by simpa [tS] using hv) (by simpa using hu)
 | .cons (.int _) _, _, _, h => h.elim
 | .cons .bool _, _, _, h => h.elim
 | .cons .str _, _, _, h => h.elim
end Go.TM
namespace Go.TM
open Go Go.RowKit
def uf (P : Program) (T : kh) : Prop :=
 ∀ t, T.eq t = true → ∀ (c : Cz) (st : St) (w : World) (l m : List CV) (us vs : Array Value) (b : Bool) (op : BinOp) (ox oy : Operand), T.fits t l = true → lY l m = some b →
   eK c st w l us.toList → eK c st w m vs.toList → ∀ w' : World, (eqGuard op t ox oy (.agg us) (.agg vs)).run P w' = .ok () w' ∧ (Op.equal t (.agg us) (.agg vs)).run P w' = .ok b w'
def uG (P : Program) (w0 : World) (mu : Mu) (aP : St) (o : Oper) (a : Act) (w : World) (kp : Bool) : Prop :=
 ∀ Q : Exit → Act → World → Prop, o.wp P a w (fun a' w' => (∃ c', Rel w0 mu c' aP a' w' ∧ a'.tmps.size = a.tmps.size) ∧ (kp = true → gZ w w')) Q
theorem pH (a : Act) (d : Option Tmp) (v : Value) : (a.put d v).tmps.size = a.tmps.size := by
 cases d <;> simp [Act.put]
theorem sE {P : Program} {w0 : World} {mu : Mu} {c' : Cz} {aP : St} {o : Oper} {a : Act} {w w' : World} {v : Value} {kp : Bool} (hr : (execOp a.eval o).run P w = .ok (.value v) w') (h : Rel w0 mu c' aP (a.put o.dst v) w') (hk : kp = true → gZ w w') :
   uG P w0 mu aP o a w kp := by
 intro Q; unfold Oper.wp; rw [hr]; exact ⟨⟨c', h, pH a _ _⟩, hk⟩
theorem pI {P : Program} {s : Sem Value} {w w' : World} {v : Value} (h : s.run P w = .ok v w') : (do pure (Next.value (← s)) : Sem Next).run P w = .ok (.value v) w' := by
 simp [Sem.run_bind, h]
theorem Gp {w0 : World} {mu : Mu} {c : Cz} {st : St} {a : Act} {w : World} (h : Rel w0 mu c st a w) (parts : Array (Nat × Operand)) :
   nt c st w (parts.toList.map fun p => (p.1, kM st p.2)) (parts.map fun (i, x) => (i, a.eval x)).toList := by
 refine ⟨by simp, fun i p u hp hu => ?_⟩; simp only [List.getElem?_map, Array.toList_map] at hp hu
 cases hq : parts.toList[i]? with
 | none => simp [hq] at hp
 | some q =>
   simp only [hq, Option.map_some, Option.some.injEq] at hp hu; subst hp hu; exact ⟨rfl, bh h q.2⟩
theorem Q1 {w0 : World} {mu : Mu} {c : Cz} {st : St} {a : Act} {w : World} (h : Rel w0 mu c st a w) (x : Option Operand) : Gk c st w (x.map (kM st)) (x.map a.eval) := by
 cases x with
 | none => rfl
 | some x => exact ⟨_, rfl, bh h x⟩
theorem K2 {P : Program} {w : World} {ok : Nat → Prop} {u : Value} {ys : List (aq (.cons (.int .u8) .nil))} (h : VO w ok (.cons (.int .u8) .nil) u ys) : (Conv.bytesToString u).run P w = .ok (.string (bytesOf ys)) w := by
 rcases h with ⟨rfl, rfl⟩ | ⟨a, cap, rfl, hs, hr⟩
 · rfl
 · have key := run_bytesToString (P := P) w a ys.length cap (ys.map JY) (by
     have h1 : ((ys.map JY).map (Value.int .u8)).length = ys.length := by simp
     have h2 := run_loadCells_list (P := P) (w := w) a ((ys.map JY).map (Value.int .u8)) (by
       intro j v hv; rw [List.map_map, List.getElem?_map] at hv
       cases hy : ys[j]? with
       | none => rw [hy] at hv; cases hv
       | some y =>
         rw [hy] at hv; simp only [Option.map_some, Option.some.injEq, Function.comp] at hv; subst hv; have h3 := hr j y hy; unfold cq at h3; obtain ⟨⟨v, h4, h5⟩, _⟩ := h3; have h5 := pD.1 h5; subst h5; have fE : ys ≠ [] := by intro e; rw [e] at hy; simp at hy
         have qz := hs fE; have e : a.add j = ⟨a.block, a.off + j * (RT.cons (.int .u8) .nil).width, none⟩ := by
           simp only [RT.width, Nat.zero_add, Nat.mul_one]; unfold Addr.add
           split
           · rename_i h0; subst h0; obtain ⟨b, o, s⟩ := a; simp at qz; subst qz; rfl
           · rfl
         rw [e]; exact h4)
     rw [h1] at h2; exact h2)
   rw [key]
   congr 2
   unfold bytesOf; rw [List.foldl_map]
def Op.Is : Op → Bool
 | .call { callee := .value (.func _), .. } => true
 | .call { callee := .value (.tmp _), .. } => true
 | _ => false
theorem Gq {c : Cz} {st : St} {w : World} {x : V} {v : Value} (h : xP c st w x v) : eo c st w x v := by
 cases x with
 | one _ => exact h
 | agg _ => exact h
 | lU _ => exact h.elim
theorem J8 {P : Program} {T : kh} (hT : fG P T) (hE : uf P T) {S : jC} {w0 : World} {mu : Mu} {c : Cz} {st : St} {a : Act} {w : World} (h : Rel w0 mu c st a w) {o : Oper} (hk : kindOk S st o .any = true)
   {aP : St} (hv : (HW T S st o).val = some aP) (hd : ∀ k, o.dst = some k → k < a.tmps.size) : ∃ v, (∀ w' : World, (execOp a.eval o).run P w' = .ok (.value v) w') ∧ Rel w0 mu c aP (a.put o.dst v) w := by
 have one : ∀ (v : Value), Rel w0 mu c aP (a.put o.dst v) w → (∀ w' : World, (execOp a.eval o).run P w' = .ok (.value v) w') → ∃ v, (∀ w' : World, (execOp a.eval o).run P w' = .ok (.value v) w') ∧ Rel w0 mu c aP (a.put o.dst v) w :=
   fun v h1 h2 => ⟨v, h2, h1⟩
 unfold HW at hv; unfold kindOk at hk
 cases ho : o.op with
 | move x =>
   simp only [ho, N.val, Option.some.injEq] at hv; subst hv; exact one _ (h.aS (bh h x) hd) (fun w' => by simp [execOp, ho])
 | assign x =>
   simp only [ho, N.val, Option.some.injEq] at hv; subst hv; exact one _ (h.aS (bh h x) hd) (fun w' => by simp [execOp, ho])
 | pick x y z =>
   simp only [ho] at hv; have hx := bh h x
   cases hq : kM st x with
   | agg _ => simp [hq, N.val] at hv
   | lU _ => simp [hq, N.val] at hv
   | one cx => cases cx with
     | bool b =>
       rw [hq] at hx; have e : a.eval x = .bool b := hx; simp only [hq] at hv; rcases uD hv with ⟨hb, xL⟩ | ⟨hb, xL⟩
       · simp only [N.val, Option.some.injEq] at xL; rw [← xL] at one ⊢; subst hb; exact one _ (h.aS (bh h y) hd) (fun w' => by simp [execOp, ho, e, asBool])
       · simp only [N.val, Option.some.injEq] at xL; rw [← xL] at one ⊢; subst hb; exact one _ (h.aS (bh h z) hd) (fun w' => by simp [execOp, ho, e, asBool])
     | _ => simp [hq, N.val] at hv
 | build t parts =>
   simp only [ho] at hv
   cases hr : T.row t with
   | none => simp [hr, N.val] at hv
   | some r => cases hg : T.agg t with
     | false => simp [hr, hg, N.val] at hv
     | true =>
       simp only [hr, hg] at hv
       cases hfc : mI T t (mG r) (parts.toList.map fun p => (p.1, kM st p.2)) with
       | none => simp [hfc, N.val] at hv
       | some cs =>
         simp only [hfc, N.val, Option.some.injEq] at hv; subst hv; obtain ⟨v, h1, h2⟩ := Nf hT h hr hg (Gp h parts) hfc hd; exact one v (h2) (fun w' => by simp only [execOp, ho]; exact pI (h1 w'))
 | nilCheck x =>
   simp only [ho] at hv; have hx := bh h x
   cases hq : kM st x with
   | agg _ => simp [hq, N.val] at hv
   | lU _ => simp [hq, N.val] at hv
   | one cx => cases cx with
     | ptr b g off =>
       rw [hq] at hx; simp only [hq] at hv
       cases AT : dx st b g with
       | none => simp [AT, N.val] at hv
       | some cs =>
         simp only [AT, N.val, Option.some.injEq] at hv; subst hv; have e := hx.2.2 cs AT; exact one _ (h.aS (v := .one (.ptr b g off)) hx hd) (fun w' => by simp [execOp, ho, e])
     | F5 a' j g i off =>
       rw [hq] at hx; simp only [hq] at hv
       cases hA : aQ st a' j g with
       | none => simp [hA, N.val] at hv
       | some A =>
         simp only [hA, N.val, Option.some.injEq] at hv; subst hv; obtain ⟨_, b, o', cap, _, e⟩ := hx.2.2 A hA; exact one _ (h.aS (v := .one (.F5 a' j g i off)) hx hd) (fun w' => by simp [execOp, ho, e])
     | _ => simp [hq, N.val] at hv
 | binOp op t x y t2 =>
   simp only [ho] at hv; obtain ⟨v, h1, h2⟩ := PJ hT h (fun t ht l m us vs b op ox oy => hE t ht c st w l m us vs b op ox oy) (ox := x) (oy := y) (bh h x) (bh h y) hv hd; exact one v (h2) (fun w' => by simp only [execOp, ho]; exact pI (h1 w'))
 | unOp op t x =>
   cases op with
   | not =>
     simp only [ho] at hv; have hx := bh h x
     cases hq : kM st x with
     | agg _ => simp [hq, N.val] at hv
     | lU _ => simp [hq, N.val] at hv
     | one cx => cases cx with
       | bool b =>
         rw [hq] at hx; have e : a.eval x = .bool b := hx; simp only [hq, N.val, Option.some.injEq] at hv; subst hv; exact one (.bool (!b)) (h.aS (v := .one (.bool (!b))) rfl hd) (fun w' => by simp [execOp, ho, e, Op.unary])
       | _ => simp [hq, N.val] at hv
   | _ => simp [ho, N.val] at hv
 | convert t1 t2 x =>
   simp only [ho] at hv; have hx := bh h x
   split at hv
   · rename_i k1 k2 k n h1 h2 hq; rw [hq] at hx; have e : a.eval x = .int k n := hx; simp only [N.val, Option.some.injEq] at hv; subst hv; obtain ⟨d1, g1, _⟩ := hT.kind _ _ h1; obtain ⟨d2, g2, e2⟩ := hT.kind _ _ h2; simp only [descOf] at e2; subst e2; refine one (.int k2 (k2.wrap n)) (h.aS (v := .one (.int k2 (k2.wrap n))) rfl hd) (fun w' => ?_); simp only [execOp, ho]; refine pI ?_; simp [convert, run_underlying g1, run_underlying g2, e, Conv.intToInt]
   · rename_i b h1 h2 hq; rw [hq] at hx; have e : a.eval x = .string b := hx; simp only [N.val, Option.some.injEq] at hv; subst hv; obtain ⟨d1, g1, e1⟩ := hT.kind _ _ h1; obtain ⟨d2, g2, e2⟩ := hT.kind _ _ h2; simp only [descOf] at e2 e1; subst e2 e1; refine one (.string b) (h.aS (v := .one (.str b)) rfl hd) (fun w' => ?_); simp only [execOp, ho]; refine pI ?_; simp [convert, run_underlying g1, run_underlying g2, e]
   · rename_i cx _ _ hq; rw [ho] at hk; simp only [hq] at hk
     split at hv
     · cases cx <;> first | (simp [kL, N.val] at hv; done) | (simp at hk; done)
     · simp [N.val] at hv
   · simp [N.val] at hv
 | slice t x lo hi mx =>
   cases mx with
   | some _ => simp [ho, N.val] at hv
   | none =>
     simp only [ho] at hv; obtain ⟨v, h1, h2⟩ := K1 hT h (bh h x) (Q1 h lo) (Q1 h hi) hv hd; exact one v (h2) (fun w' => by simp only [execOp, ho]; exact pI (h1 w'))
 | fieldAddr t x f =>
   simp only [ho] at hv; have hx := bh h x; have place : ∀ (b q k : Nat), T.off t f = some k → a.eval x = .pointer (some ⟨b, q, none⟩) → ∀ w' : World, (execOp a.eval o).run P w' = .ok (.value (.pointer (some ⟨b, q + k, none⟩))) w' := by
     intro b q k hk e w'; obtain ⟨fs, DQ, n, g1, g2, g3, g4⟩ := hT.off t f k hk
     cases hi : P.info? DQ.type with
     | none => simp [hi] at g4
     | some i =>
       simp only [hi, Option.map_some, Option.some.injEq] at g4; simp only [execOp, ho]; refine pI ?_; subst g3; simp [Instr.fieldAt, run_underlying g1, g2, e, Instr.sureAddr, fieldPlace, sizeOf, typeInfo, hi, g4, Addr.add]
   split at hv
   · rename_i b g off k hq hk; rw [hq] at hx
     cases AT : dx st b g with
     | none => simp [AT, N.val] at hv
     | some cs =>
       simp only [AT, N.val, Option.some.injEq] at hv; subst hv; have e := hx.2.2 cs AT; refine one (.pointer (some ⟨c.bx b, off + k, none⟩)) (h.aS (v := .one (.ptr b g (off + k))) ⟨rfl, hx.2.1, fun lV Ig => rfl⟩ hd) (place _ _ k hk e)
   · rename_i a' j g i off k hq hk; rw [hq] at hx
     cases hA : aQ st a' j g with
     | none => simp [hA, N.val] at hv
     | some A =>
       simp only [hA, N.val, Option.some.injEq] at hv; subst hv; obtain ⟨hi, b, o', cap, hl, e⟩ := hx.2.2 A hA; refine one (.pointer (some ⟨b, o' + i * A.r.width + off + k, none⟩)) (h.aS (v := .one (.F5 a' j g i (off + k))) ⟨rfl, hx.2.1, fun A' eb => ?_⟩ hd) (place _ _ k hk e); rw [hA] at eb
       cases eb
       exact ⟨hi, b, o', cap, hl, by rw [Nat.add_assoc]⟩
   · rename_i r y off k hq hk; rw [hq] at hx; simp only [N.val, Option.some.injEq] at hv; subst hv; obtain ⟨b, o', e, h1, h2, h3⟩ := hx; exact one (.pointer (some ⟨b, o' + off + k, none⟩)) (h.aS (v := .one (.kC r y (off + k))) ⟨b, o', by rw [Nat.add_assoc], h1, h2, h3⟩ hd) (place _ _ k hk e)
   · rename_i r ys off k hq hk; rw [hq] at hx; simp only [N.val, Option.some.injEq] at hv; subst hv; obtain ⟨b, o', e, h1, h2, h3⟩ := hx; exact one (.pointer (some ⟨b, o' + off + k, none⟩)) (h.aS (v := .one (.re r ys (off + k))) ⟨b, o', by rw [Nat.add_assoc], h1, h2, h3⟩ hd) (place _ _ k hk e)
   · simp [N.val] at hv
 | indexAddr t x i =>
   simp only [ho] at hv; obtain ⟨v, h1, h2⟩ := KZ hT h (bh h x) (bh h i) hv hd; exact one v (h2) (fun w' => by simp only [execOp, ho]; exact pI (h1 w'))
 | index t x i =>
   simp only [ho] at hv; have hx := bh h x; have hi := bh h i
   split at hv
   · rename_i s k n h1 Se Il; rw [Se] at hx; rw [Il] at hi; have e1 : a.eval x = .string s := hx; have e2 : a.eval i = .int k n := hi; obtain ⟨Pn, hv⟩ := eZ hv; obtain ⟨VN, hv⟩ := eZ hv; have Pn := of_decide_eq_true Pn; have VN := of_decide_eq_true VN; simp only [N.val, Option.some.injEq] at hv; subst hv; obtain ⟨d1, g1, e3⟩ := hT.kind _ _ h1; simp only [descOf] at e3; subst e3; have bX : n.toNat < s.size := by omega
     have hb : s[n.toNat]? = some s[n.toNat] := getElem?_pos s n.toNat bX; refine one (.int .u8 (EM s n)) (h.aS (v := .one (.int .u8 (EM s n))) rfl hd) (fun w' => ?_); simp only [execOp, ho]; refine pI ?_; simp [Instr.index, e1, e2, asIntOf, run_underlying g1, Pn, hb, EM]
   · simp [N.val] at hv
 | field t x f =>
   simp only [ho] at hv; have hx := bh h x
   cases hq : kM st x with
   | one _ => simp [hq, N.val] at hv
   | lU _ => simp [hq, N.val] at hv
   | agg cs =>
     rw [hq] at hx; simp only [hq] at hv
     cases AU : T.off t f with
     | none => simp [AU, N.val] at hv
     | some k =>
       simp only [AU] at hv; obtain ⟨h1, hv⟩ := dD hv
       cases hn : nth cs k with
       | none => simp [hn, N.val] at hv
       | some u =>
         simp only [hn, N.val, Option.some.injEq] at hv; subst hv; obtain ⟨vs, e, hl, he⟩ := hx; rw [fK] at hn; have bX : k < vs.size := by rw [← Array.length_toList, ← hl]; exact (List.getElem?_eq_some_iff.1 hn).1
         have hg : vs[k]? = some vs[k] := Array.getElem?_eq_getElem bX; obtain ⟨fs, DQ, d1, g1, g2, g3, g4⟩ := hT.one t f h1; obtain ⟨fs', ahj, _, VR, ZE, g5, _⟩ := hT.off t f k AU; rw [g1] at VR; injection VR with VR; injection VR with VR; subst VR; rw [g2] at ZE; injection ZE with ZE; subst ZE; refine one vs[k] (h.aS (v := .one u) (he k u _ hn (by rw [Array.getElem?_toList]; exact hg)) hd) (fun w' => ?_); simp only [execOp, ho]; refine pI ?_; have RW : (isAgg DQ.type).run P w' = .ok false w' := by
           unfold isAgg; rw [Sem.run_bind, run_underlying g3 w']
           cases d1 <;> simp_all [TypeDesc.isRow]
         simp [Instr.field, e, run_underlying g1, g2, part, asAgg, RW, g5, hg]
 | extract t i =>
   simp only [ho] at hv; have hx := bh h t
   cases hq : kM st t with
   | one _ => simp [hq, N.val] at hv
   | agg _ => simp [hq, N.val] at hv
   | lU vs =>
     rw [hq] at hx; simp only [hq] at hv
     cases hn : nth vs i with
     | none => simp [hn, N.val] at hv
     | some u =>
       simp only [hn, N.val, Option.some.injEq] at hv; subst hv; obtain ⟨us, e, hl, he⟩ := hx; rw [fK] at hn; have bX : i < us.size := by rw [← hl]; exact (List.getElem?_eq_some_iff.1 hn).1
       have hg : us[i]? = some us[i] := Array.getElem?_eq_getElem bX; refine one us[i] (h.aS (Gq (he i u _ hn hg)) hd) (fun w' => ?_); simp only [execOp, ho]; refine pI ?_; simp [Instr.extract, e, hg]
 | call cl =>
   obtain ⟨callee, args, K3⟩ := cl
   cases callee with
   | invoke r n => simp [ho, N.val] at hv
   | value x =>
     cases x with
     | func f => simp [ho] at hk
     | tmp f => simp [ho] at hk
     | _ => simp [ho, N.val] at hv
   | builtin b =>
     have hx := fun x => bh h x
     simp only [ho] at hv; have J9 : ∀ x y, args.toList = [x, y] → args = #[x, y] := fun x y e => by rw [← Array.toArray_toList (xs := args), e]
     split at hv
     · rename_i x t ha ht; have ha : args = #[x] := by rw [← Array.toArray_toList (xs := args), ha]
       have ht : K3 = #[t] := by rw [← Array.toArray_toList (xs := K3), ht]
       subst ha ht; obtain ⟨v, h1, h2⟩ := PK (ty := o.type) hT h (bh h x) hv hd; exact one v (h2) (fun w' => by simp only [execOp, ho]; simp [resolve, invoke, builtin, Sem.run_bind, h1 w'])
     · rename_i x y t u ha ht; simp [ho] at hk
     · rename_i ts x y ha; have ha := J9 x y ha; subst ha
       split at hv
       · rename_i k p l q Se Il; have e1 := bh h x; have e2 := bh h y; rw [Se] at e1; rw [Il] at e2; have e1 : a.eval x = .int k p := e1; have e2 : a.eval y = .int l q := e2; simp only [N.val, Option.some.injEq] at hv; subst hv; exact one _ (h.aS (v := .one (.int k (if q < p then q else p))) (u := .int k (if q < p then q else p)) rfl hd) (fun w' => by simp only [execOp, ho]; simp [resolve, invoke, builtin, Sem.run_bind, Builtin.min_, Builtin.min2, e1, e2])
       · simp [N.val] at hv
     · rename_i ts x y ha; have ha := J9 x y ha; subst ha
       split at hv
       · rename_i k p l q Se Il; have e1 := bh h x; have e2 := bh h y; rw [Se] at e1; rw [Il] at e2; have e1 : a.eval x = .int k p := e1; have e2 : a.eval y = .int l q := e2; simp only [N.val, Option.some.injEq] at hv; subst hv; exact one _ (h.aS (v := .one (.int k (if q > p then q else p))) (u := .int k (if q > p then q else p)) rfl hd) (fun w' => by simp only [execOp, ho]; simp [resolve, invoke, builtin, Sem.run_bind, Builtin.max_, Builtin.max2, e1, e2])
       · simp [N.val] at hv
     · rename_i ts x y z ha; have ha : args = #[x, y, z] := by rw [← Array.toArray_toList (xs := args), ha]
       subst ha
       split at hv
       · rename_i k p l q m s Se Il WB; have e1 := bh h x; have e2 := bh h y; have e3 := bh h z; rw [Se] at e1; rw [Il] at e2; rw [WB] at e3; have e1 : a.eval x = .int k p := e1; have e2 : a.eval y = .int l q := e2; have e3 : a.eval z = .int m s := e3; simp only [N.val, Option.some.injEq] at hv; subst hv; exact one _ (h.aS (v := .one (.int k (if s < (if q < p then q else p) then s else (if q < p then q else p)))) (u := .int k (if s < (if q < p then q else p) then s else (if q < p then q else p))) rfl hd) (fun w' => by simp only [execOp, ho]; simp [resolve, invoke, builtin, Sem.run_bind, Builtin.min_, Builtin.min2, e1, e2, e3])
       · simp [N.val] at hv
     · simp [N.val] at hv
 | _ => simp [ho] at hk
theorem Sf {P : Program} {T : kh} (hT : fG P T) (hE : uf P T) {S : jC} {w0 : World} {mu : Mu} {c : Cz} {st : St} {a : Act} {w : World} (h : Rel w0 mu c st a w) {o : Oper} (hf : Op.Is o.op = false) (qz : F8 st o = false)
   {aP : St} (hv : (HW T S st o).val = some aP) (hd : ∀ k, o.dst = some k → k < a.tmps.size) : uG P w0 mu aP o a w (kindOk S st o .one) := by
 by_cases hp : kindOk S st o .any = true
 · obtain ⟨v, h1, h2⟩ := J8 hT hE h hp hv hd; exact sE (h1 w) h2 (fun _ => gZ.refl w)
 have one : ∀ (v : Value) (w' : World), (∃ c', Rel w0 mu c' aP (a.put o.dst v) w') → gZ w w' → (execOp a.eval o).run P w = .ok (.value v) w' → uG P w0 mu aP o a w (kindOk S st o .one) :=
   fun v w' ⟨c', h'⟩ hk hr => sE hr h' (fun _ => hk)
 unfold kindOk at hp; unfold HW at hv
 cases ho : o.op with
 | alloc t =>
   simp only [ho] at hv
   cases hr : T.row t with
   | none => simp [hr, N.val] at hv
   | some r =>
     simp only [hr] at hv; obtain ⟨k, s0, hk, gW, rfl⟩ := z8 hv; obtain ⟨i, z, hi, hz, HY⟩ := hT.row t r hr; refine one _ _ ⟨_, hk ▸ h.gX (ty := t) gW (hd k hk) (uF HY)⟩ (gZ.alloc _ _) ?_; simp [execOp, ho, Instr.alloc, zeroValue, typeInfo, hi, hz, newVar, newRow]
 | box t x =>
   simp only [ho] at hv
   cases hn : T.cells t with
   | none => simp [hn, N.val] at hv
   | some n =>
     simp only [hn] at hv; obtain ⟨hc, hv⟩ := dD hv; rw [Bool.and_eq_true] at hc; obtain ⟨oJ, _⟩ := (bh h x).cells hc.1
     cases jZ : (bif T.cap t then dQ (kM st x).cells else none) with
     | none =>
       rw [jZ] at hv; obtain ⟨k, s0, hk, gW, rfl⟩ := z8 hv; refine one _ _ ⟨_, hk ▸ h.gX (ty := t) gW (hd k hk) oJ⟩ (gZ.alloc _ _) ?_; simp [execOp, ho, Instr.box, newVar, newRow]
     | some p =>
       obtain ⟨r, y⟩ := p; rw [jZ] at hv; simp only [N.val, Option.some.injEq] at hv; subst hv; have hp2 : dQ (kM st x).cells = some ⟨r, y⟩ := by
         cases hcp : T.cap t with
         | true => rw [hcp] at jZ; exact jZ
         | false => rw [hcp] at jZ; cases jZ
       have BJ : c.ok w.heap.size := by
         unfold Cz.ok
         cases hq : c.own w.heap.size with
         | none => rfl
         | some l => exact absurd (h.owned _ l hq).1 (Nat.lt_irrefl _)
       have uA : eo c st (w.alloc (.cells (a.eval x).cells t (0, 0))) (.one (.kC r y 0)) (.pointer (some ⟨w.heap.size, 0, none⟩)) :=
         ⟨w.heap.size, 0, rfl, by simp, BJ, lE (Fw.grow h _).stays _ hp2 _ 0 oJ fun i v hv => by
           rw [Nat.zero_add]; exact Gl (heap_alloc_new w _) hv⟩
       refine one (.pointer (some ⟨w.heap.size, 0, none⟩)) (w.alloc (.cells (a.eval x).cells t (0, 0))) ⟨c, (h.grow _).aS uA hd⟩ (gZ.alloc _ _) ?_; simp [execOp, ho, Instr.box, newVar, newRow]
 | makeFunc fn first uq =>
   cases fn with
   | func g =>
     simp only [ho] at hv; obtain ⟨aat, hv⟩ := dD hv
     cases hc : wj st uq.toList with
     | none => simp [hc, N.val] at hv
     | some p =>
       obtain ⟨zi, rs, x⟩ := p; rw [hc] at hv; simp only [N.val, Option.some.injEq] at hv; subst hv; obtain ⟨c1, h1, h2, h3⟩ := Gm _ h hc; have hf0 : first = #[] := by simpa using aat
       subst hf0; have uA : eo c1 zi w (.one (.fn g rs [x])) (.func (.func g) #[] (uq.map a.eval)) :=
         ⟨_, rfl, fun y hy => by
           simp at hy; subst hy; rw [Array.toList_map]; exact h3⟩
       exact one _ w ⟨c1, h1.aS uA hd⟩ (gZ.refl w) (by simp [execOp, ho, Instr.makeFunc])
   | _ => simp [ho, N.val] at hv
 | buildSlice t len parts =>
   simp only [ho] at hv; obtain ⟨v, w', h1, PN, c', h2⟩ := BF hT h (Gp h parts) hv hd; exact one v w' ⟨c', h2⟩ PN (by simp only [execOp, ho]; exact pI h1)
 | makeSlice t l cp =>
   simp only [ho] at hv; obtain ⟨v, w', h1, PN, c', h2⟩ := Nc hT h (bh h l) (bh h cp) hv hd; exact one v w' ⟨c', h2⟩ PN (by simp only [execOp, ho]; exact pI h1)
 | load t x =>
   simp only [ho] at hv; obtain ⟨v, h1, h2⟩ := F9 hT h (bh h x) hv hd; exact one v w ⟨c, h2⟩ (gZ.refl w) (by simp only [execOp, ho]; exact pI (h1 w (gZ.refl w)))
 | store t x y =>
   simp only [ho] at hv
   cases ug : o.dst with
   | some _ => simp [ug, N.val] at hv
   | none =>
     simp only [ug] at hv; obtain ⟨w', h1, c', h2⟩ := KW hT h (bh h x) (bh h y) hv; intro Q; have hr : (execOp a.eval o).run P w = .ok .skip w' := by simp [execOp, ho, Sem.run_bind, h1]
     unfold Oper.wp; rw [hr]; refine ⟨⟨c', ?_, pH a _ _⟩, fun hk => ?_⟩
     · rw [ug]; exact h2
     · simp [kindOk, ho] at hk
 | call cl =>
   obtain ⟨callee, args, K3⟩ := cl
   cases callee with
   | invoke r n => simp [ho, N.val] at hv
   | value x =>
     cases x with
     | func f => simp [ho, Op.Is] at hf
     | tmp f => simp [ho, Op.Is] at hf
     | _ => simp [ho, N.val] at hv
   | builtin b =>
     simp only [ho] at hv; have J9 : ∀ x y, args.toList = [x, y] → args = #[x, y] := fun x y e => by rw [← Array.toArray_toList (xs := args), e]
     split at hv
     · simp [ho] at hp
     · rename_i x y t u ha ht; obtain ⟨Sg, xL⟩ := dD hv; have Sg := Nat.eq_of_beq_eq_true Sg; subst Sg; have ha := J9 x y ha; have ht : K3 = #[t, t] := by rw [← Array.toArray_toList (xs := K3), ht]
       subst ha ht; have Sh : kU st [(.io, kM st x)] = none := by
         unfold F8 at qz; simp only [ho] at qz
         cases hq : kU st [(.io, kM st x)] with
         | none => rfl
         | some _ => rw [hq] at qz; cases qz
       unfold EP at xL; rw [Sh] at xL; obtain ⟨v, w', h1, c', h2⟩ := BD (ty := o.type) hT h (bh h x) (bh h y) xL hd; exact sE (c' := c') (by simp only [execOp, ho]; simp [resolve, invoke, builtin, Sem.run_bind, h1]) h2 (fun hk => by simp [kindOk, ho] at hk)
     · simp [ho] at hp
     · simp [ho] at hp
     · simp [ho] at hp
     · simp [N.val] at hv
 | move _ => simp [ho] at hp
 | assign _ => simp [ho] at hp
 | pick _ _ _ => simp [ho] at hp
 | build _ _ => simp [ho] at hp
 | nilCheck _ => simp [ho] at hp
 | binOp _ _ _ _ _ => simp [ho] at hp
 | unOp _ _ _ => simp [ho] at hp
 | convert t1 t2 x =>
   simp only [ho] at hv hp; have hx := bh h x
   split at hv
   · rename_i hq; simp [hq] at hp
   · rename_i hq; simp [hq] at hp
   · rename_i cx h1 h2 hq
     split at hv
     · rename_i b he; rw [hq] at hx; obtain ⟨ys, h3, h4⟩ := z7 h hx hv; simp only [N.val, Option.some.injEq] at h3; subst h3; obtain ⟨e, i, z, g1, g2, g3, g4, g5, _⟩ := hT.elem _ _ _ he; obtain ⟨d2, q2, e2⟩ := hT.kind _ _ h2; simp only [descOf] at e2; subst e2; have hu8 : P.underlying e = some (.int .u8) := hT.u8 t1 e b he g1; have hr := K2 (P := P) h4; refine one (.string (bytesOf ys)) w ⟨c, h.aS (v := .one (.str (bytesOf ys))) rfl hd⟩ (gZ.refl w) ?_; simp only [execOp, ho]; refine pI ?_; rcases h4 with ⟨hn, _⟩ | ⟨a0, cap, hn, _⟩
       · rw [hn] at hr ⊢; rw [run_convert_bytes_string w t1 t2 e none 0 0 g1 hu8 q2]; exact hr
       · rw [hn] at hr ⊢; rw [run_convert_bytes_string w t1 t2 e (some a0) _ cap g1 hu8 q2]; exact hr
     · simp [N.val] at hv
   · simp [N.val] at hv
 | slice _ _ _ _ _ => simp [ho] at hp
 | fieldAddr _ _ _ => simp [ho] at hp
 | indexAddr _ _ _ => simp [ho] at hp
 | index _ _ _ => simp [ho] at hp
 | extract _ _ => simp [ho] at hp
 | field _ _ _ => simp [ho] at hp
 | _ => simp [ho, N.val] at hv
end Go.TM
namespace Go.TM
open Go Go.RowKit
def qS (P : Program) (T : kh) (S : jC) (w0 : World) (mu : Mu) (n : Nat) : Prop :=
 ∀ {c : Cz} {st aP : St} {a : Act} {w : World} {o : Oper}, Rel w0 mu c st a w → a.tmps.size = n → (∀ k, o.dst = some k → k < n) → (HW T S st o).val = some aP → uG P w0 mu aP o a w (kindOk S st o .one)
theorem BK (a : Act) (d : Nat) (v : Value) (hd : d < a.tmps.size) (h : a.eval (.tmp d) = v) : a.put (some d) v = a := by
 obtain ⟨tm, df⟩ := a; simp only [Act.put, Act.mk.injEq, and_true]; simp only [Act.eval, Array.getD_eq_getD_getElem?, Array.getElem?_eq_getElem hd, Option.getD_some] at h; apply Array.ext
 · simp
 · intro i h1 h2; rw [Array.getElem_setIfInBounds h2]
   split
   · rename_i e; subst e; exact h.symm
   · rfl
theorem vN {w0 : World} {mu : Mu} {c : Cz} {st : St} {a : Act} {w : World} (h : Rel w0 mu c st a w) {d : Nat} {b : Bool} (hg : bW st d = .one (.bool b)) :
   d < a.tmps.size ∧ a.eval (.tmp d) = .bool b := by
 have h1 := h.eL d; rw [hg] at h1; have h1 : a.eval (.tmp d) = .bool b := h1; refine ⟨?_, h1⟩; rcases Nat.lt_or_ge d a.tmps.size with h2 | h2
 · exact h2
 · simp [Act.eval, Array.getD_eq_getD_getElem?, Array.getElem?_eq_none h2, undef] at h1
theorem Rel.WC {w0 : World} {mu : Mu} {c : Cz} {st : St} {a : Act} {w : World} (h : Rel w0 mu c st a w) {d : Nat} {b : Bool} (hg : bW st d = .one (.bool b)) :
   Rel w0 mu c (TM.aS st (some d) (.one (.bool b))) a w := by
 obtain ⟨h1, h2⟩ := vN h hg; have := h.aS (d := some d) (v := .one (.bool b)) (u := .bool b) rfl (fun t e => by cases e; exact h1)
 rwa [BK a d _ h1 h2] at this
theorem BL {ops : Array Oper} {a : Act} {j d : Nat} {b : Bool} (hj : (nth ops.toList j).bind (·.dst) = some d) (hd : d < a.tmps.size) (h : a.eval (.tmp d) = .bool b) : yielded ops a.tmps j = some b := by
 rw [fK, Array.getElem?_toList] at hj; unfold yielded; rw [hj]; simp only [Act.eval, Array.getD_eq_getD_getElem?, Array.getElem?_eq_getElem hd, Option.getD_some] at h; simp [Array.getElem?_eq_getElem hd, h]
theorem vO : (st : St) → (d : Nat) → {v : V} → bW st d = v → TM.aS st (some d) v = st
 | [], _, _, _ => rfl
 | s :: l, 0, v, h => by
   have h : s.v = v := h; subst h; rfl
 | s :: l, d + 1, v, h => congrArg (s :: ·) (vO l d h)
theorem Gr {S : jC} {st : St} {o : Oper} {d : Nat} {b : Bool} {k : Kd} (h : bW st d = .one (.bool b)) : kindOk S (TM.aS st (some d) (.one (.bool b))) o k = kindOk S st o k := by
 rw [vO st d h]
theorem vP (c : Cz) (st : St) (w : World) : eo c st w (.lU []) undef := ⟨#[], rfl, rfl, fun i x y hx => by simp at hx⟩
theorem wq {ops : Array Oper} {a : Act} {j d : Nat} (hj : (nth ops.toList j).bind (·.dst) = some d) (h : a.eval (.tmp d) = undef) : yielded ops a.tmps j = none := by
 rw [fK, Array.getElem?_toList] at hj; unfold yielded; rw [hj]; simp only [Act.eval, Array.getD_eq_getD_getElem?] at h
 cases ht : a.tmps[d]? with
 | none => simp [ht]
 | some v =>
   rw [ht] at h; simp only [Option.getD_some] at h; subst h; simp [ht, undef]
theorem BM {w0 : World} {mu : Mu} {c : Cz} {st : St} {a : Act} {w : World} (h : Rel w0 mu c st a w) {d : Nat} (hg : bW st d = .lU []) : a.eval (.tmp d) = undef := by
 have h1 := h.eL d; rw [hg] at h1; obtain ⟨vs, e, hl, _⟩ := h1; have : vs = #[] := Array.eq_empty_of_size_eq_zero hl.symm; rw [e, this]; rfl
theorem Gs {P : Program} {T : kh} {S : jC} {w0 : World} {mu : Mu} {n : Nat} (Dj : qS P T S w0 mu n) {c : Cz} {st aP : St} {a : Act} {w : World} {ops : Array Oper} {o : Oper} (h : Rel w0 mu c st a w) (hn : a.tmps.size = n)
   (hd : ∀ k, o.dst = some k → k < n) (hv : (zj T S ops.toList st o).val = some aP) :
   (Region.wanted o (yielded ops a.tmps) = true ∧ uG P w0 mu aP o a w (kindOk S st o .one)) ∨ (Region.wanted o (yielded ops a.tmps) = false ∧ Rel w0 mu c aP (a.put o.dst undef) w) := by
 unfold zj at hv; unfold Region.wanted
 cases hg : o.guard with
 | none =>
   simp only [hg] at hv ⊢; exact .inl ⟨trivial, Dj h hn hd hv⟩
 | some p =>
   obtain ⟨j, want⟩ := p; simp only [hg] at hv ⊢
   cases hj : (nth ops.toList j).bind (·.dst) with
   | none => simp [hj, N.val] at hv
   | some d =>
     simp only [hj] at hv
     split at hv
     · rename_i b Nj; obtain ⟨h1, h2⟩ := vN h Nj; have hy := BL (ops := ops) hj h1 h2; rw [hy]; have hk := h.WC Nj; have yes : (HW T S (TM.aS st (some d) (.one (.bool b))) o).val = some aP → uG P w0 mu aP o a w (kindOk S st o .one) := fun e => (Gr Nj) ▸ Dj hk hn hd e
       have no : (N.done (TM.aS (TM.aS st (some d) (.one (.bool b))) o.dst (.lU []))).val = some aP → Rel w0 mu c aP (a.put o.dst undef) w := by
         intro e; simp only [N.val, Option.some.injEq] at e; subst e; exact hk.aS (vP _ _ _) (fun k AU => by rw [hn]; exact hd k AU)
       rcases uD hv with ⟨hb, xL⟩ | ⟨hb, xL⟩
       · subst hb
         cases want
         · exact .inr ⟨rfl, no xL⟩
         · exact .inl ⟨rfl, yes xL⟩
       · subst hb
         cases want
         · exact .inl ⟨rfl, yes xL⟩
         · exact .inr ⟨rfl, no xL⟩
     · rename_i Nj; simp only [N.val, Option.some.injEq] at hv; subst hv; rw [wq (ops := ops) hj (BM h Nj)]; exact .inr ⟨by cases want <;> rfl, h.aS (vP _ _ _) (fun k AU => by rw [hn]; exact hd k AU)⟩
     · simp [N.val] at hv
def wI (n : Nat) (ops : List Oper) : Bool := ops.all fun o => match o.dst with | some k => Nat.blt k n | none => true
theorem zn {n : Nat} {ops : List Oper} (h : wI n ops = true) {o : Oper} (ho : o ∈ ops) : ∀ k, o.dst = some k → k < n := by
 intro k hk; have := List.all_eq_true.1 h o ho; rw [hk] at this; exact Nat.le_of_ble_eq_true this
def Next {R : Type} (w0 : World) (mu : Mu) (n : Nat) (r : R) (k : St → Option R) (K : Act → World → Prop) : Prop :=
 ∀ {c : Cz} {st : St} {a : Act} {w : World}, Rel w0 mu c st a w → a.tmps.size = n → k st = some r → K a w
theorem E2 {R : Type} {P : Program} {T : kh} {S : jC} {w0 : World} {mu : Mu} {n : Nat} (Dj : qS P T S w0 mu n) {ops : Array Oper} {Q : Exit → Act → World → Prop} {k : St → Option R} {r : R} (hk : Next w0 mu n r k (Q .normal)) :
   (l : List Oper) → wI n l = true → {c : Cz} → {st : St} → {a : Act} → {w : World} → Rel w0 mu c st a w → a.tmps.size = n → Pz T S ops.toList l st k = some r → wpList P ops Q l a w
 | [], _, _, _, _, _, h, hn, hv => hk h hn hv
 | o :: l, hl, c, st, a, w, h, hn, hv => by
   unfold Pz at hv; rw [N.fold_eq] at hv; obtain ⟨aP, h1, h2⟩ := Option.bind_eq_some_iff.1 hv; have hd := zn hl (o := o) List.mem_cons_self; have wk : wI n l = true := by
     unfold wI at hl ⊢; rw [List.all_cons, Bool.and_eq_true] at hl; exact hl.2
   refine wpList_step fun K hK => ?_
   rcases Gs Dj h hn hd h1 with ⟨hw, hs⟩ | ⟨hw, hs⟩
   · rw [if_pos hw]; refine Oper.wp_mono (fun a' w' ⟨⟨c', hr, ki⟩, _⟩ => hK a' w' ?_) (hs Q); exact E2 Dj hk l wk hr (ki.trans hn) h2
   · rw [if_neg (by rw [hw]; decide)]; exact hK _ _ (E2 Dj hk l wk hs ((pH _ _ _).trans hn) h2)
def Ex.go : Ex → Exit
 | .normal => .normal
 | .exit n => .exit n
 | .ret => .ret
def Ka {R : Type} (w0 : World) (mu : Mu) (n : Nat) (r : R) (k : Ex → St → Option R) (Q : Exit → Act → World → Prop) : Prop :=
 ∀ {e : Ex} {c : Cz} {st : St} {a : Act} {w : World}, Rel w0 mu c st a w → a.tmps.size = n → k e st = some r → Q e.go a w
def eQ (n : Nat) : Code → Bool
 | .region _ ops _ => wI n ops.toList
 | .seq a b => eQ n a && eQ n b
 | .cond _ a b => eQ n a && eQ n b
 | .block _ a => eQ n a
 | .loop a => eQ n a
 | _ => true
def ll {R : Type} (P : Program) (w0 : World) (mu : Mu) (n : Nat) (L : l5 R) (r : R) (id : Nat) (b : Code) : Prop :=
 ∀ {k : Ex → St → Option R} {Q : Exit → Act → World → Prop}, Ka w0 mu n r k Q → ∀ {c : Cz} {st : St} {a : Act} {w : World}, Rel w0 mu c st a w → a.tmps.size = n →
   L id b st k = some r → (Code.block id (.loop b)).wp P Q a w
def dE (ok : Nat → Code → Prop) : Code → Prop
 | .seq a b => dE ok a ∧ dE ok b
 | .cond _ a b => dE ok a ∧ dE ok b
 | .block id (.loop b) => ok id b
 | .block _ a => dE ok a
 | _ => True
def pr (R : Type) (P : Program) (T : kh) (S : jC) (D : jU) (w0 : World) (mu : Mu) (n : Nat) (ok : Nat → Array Oper → Prop) : Prop :=
 ∀ {id : Nat} {ops : Array Oper} {Q : Exit → Act → World → Prop} {k : St → Option R} {r : R}, ok id ops → wI n ops.toList = true → Next w0 mu n r k (Q .normal) → ∀ {c : Cz} {st : St} {a : Act} {w : World}, Rel w0 mu c st a w → a.tmps.size = n →
   rh T S ops.toList (D id) st k = some r → (Code.region id ops true).wp P Q a w
def dS (ok : Nat → Array Oper → Prop) : Code → Prop
 | .region id ops true => ok id ops
 | .seq a b => dS ok a ∧ dS ok b
 | .cond _ a b => dS ok a ∧ dS ok b
 | .block _ (.loop _) => True
 | .block _ a => dS ok a
 | _ => True
theorem x9 {R : Type} {P : Program} {T : kh} {S : jC} {D : jU} {L : l5 R} {w0 : World} {mu : Mu} {n : Nat} {r : R} {ok : Nat → Array Oper → Prop} (Dj : qS P T S w0 mu n) (hD : pr R P T S D w0 mu n ok) :
   (cd : Code) → eQ n cd = true → dE (ll P w0 mu n L r) cd → dS ok cd → {k : Ex → St → Option R} → {Q : Exit → Act → World → Prop} → Ka w0 mu n r k Q →
   {c : Cz} → {st : St} → {a : Act} → {w : World} → Rel w0 mu c st a w → a.tmps.size = n → eC T S D L cd st k = some r → cd.wp P Q a w := by
 intro cd
 induction cd with
 | skip =>
   intro _ _ _ k Q hk c st a w h hn hv; unfold eC at hv; exact wp_skip (hk h hn hv)
 | region id ops draw =>
   intro hd hL hw k Q hk c st a w h hn hv
   cases draw with
   | false =>
     unfold eC at hv; exact wp_region_list (E2 Dj (Q := Q) (k := fun aP => k .normal aP) (fun h1 h2 h3 => hk h1 h2 h3) ops.toList hd h hn hv)
   | true =>
     unfold eC at hv; exact hD hw hd (k := fun aP => k .normal aP) (fun h1 h2 h3 => hk h1 h2 h3) h hn hv
 | seq x y ihx ihy =>
   intro hd hL hw k Q hk c st a w h hn hv; unfold eC at hv; unfold eQ at hd; rw [Bool.and_eq_true] at hd; refine wp_seq (ihx hd.1 hL.1 hw.1 (fun {e} {c} {st} {a} {w} h1 h2 h3 => ?_) h hn hv)
   cases e with
   | normal => exact ihy hd.2 hL.2 hw.2 hk h1 h2 h3
   | exit m => exact hk h1 h2 h3
   | ret => exact hk h1 h2 h3
 | cond x y z ihy ihz =>
   intro hd hL hw k Q hk c st a w h hn hv; unfold eQ at hd; rw [Bool.and_eq_true] at hd
   cases x with
   | tmp t =>
     unfold eC at hv
     split at hv
     · rename_i b hg; obtain ⟨_, h2⟩ := vN h hg; have hkn := h.WC hg
       cases b with
       | true => exact wp_cond_true h2 (ihy hd.1 hL.1 hw.1 hk hkn hn hv)
       | false => exact wp_cond_false h2 (ihz hd.2 hL.2 hw.2 hk hkn hn hv)
     · cases hv
   | _ => unfold eC at hv; cases hv
 | block id b ih =>
   intro hd hL hw k Q hk c st a w h hn hv
   by_cases hb : ∃ b', b = .loop b'
   · obtain ⟨b', rfl⟩ := hb; unfold eC at hv; exact hL hk h hn hv
   · have my : eC T S D L b st (fun e aP => match e with
         | .exit n => bif Nat.beq n id then k .normal aP else k (.exit n) aP
         | e => k e aP) = some r := by
       cases b with
       | loop b' => exact absurd ⟨b', rfl⟩ hb
       | _ => unfold eC at hv; exact hv
     have VS : dS ok b := by
       cases b with
       | loop b' => exact absurd ⟨b', rfl⟩ hb
       | _ => unfold dS at hw; exact hw
     have hL' : dE (ll P w0 mu n L r) b := by
       cases b with
       | loop b' => exact absurd ⟨b', rfl⟩ hb
       | _ => unfold dE at hL; exact hL
     refine wp_block (ih hd hL' VS (fun {e} {c} {st} {a} {w} h1 h2 h3 => ?_) h hn my)
     cases e with
     | normal => exact hk h1 h2 h3
     | ret => exact hk h1 h2 h3
     | exit m =>
       simp only at h3; unfold Exit.inBlock; simp only [Ex.go]
       cases hm : Nat.beq m id with
       | true =>
         rw [hm] at h3; rw [if_pos (Nat.eq_of_beq_eq_true hm)]; exact hk h1 h2 h3
       | false =>
         rw [hm] at h3; rw [if_neg (Nat.ne_of_beq_eq_false hm)]; exact hk (e := .exit m) h1 h2 h3
 | exit id =>
   intro _ _ _ k Q hk c st a w h hn hv; unfold eC at hv; exact wp_exit (hk h hn hv)
 | ret =>
   intro _ _ _ k Q hk c st a w h hn hv; unfold eC at hv; exact wp_ret (hk h hn hv)
 | _ =>
   intro _ _ _ k Q hk c st a w h hn hv; unfold eC at hv
   cases hv
end Go.TM
namespace Go.TM
open Go Go.RowKit
def OwnAt (c : Cz) (w : World) (l : Lb) (lc : Loc) (A : gr) (v : Value) : Prop :=
 v.oneCell' = true ∧ iB lc A.r.width 0 A.xs.length v ∧ A.own = true ∧
 match lc with
 | .nil => A.xs = []
 | .at b off cap => c.own b = some l ∧ A.xs.length ≤ cap ∧ (∃ cur ty, w.heap[b]? = some (.cells cur ty (0, 0)) ∧ off + cap * A.r.width ≤ cur.size) ∧
     bn c w l A b off
def bd (c : Cz) (w : World) (f : Nat → Lb) : (j : Nat) → List OV → List Value → Prop
 | _, [], vs => vs = []
 | j, .int k n :: os, vs => ∃ l, vs = .int k n :: l ∧ bd c w f (j + 1) os l
 | j, .bool b :: os, vs => ∃ l, vs = .bool b :: l ∧ bd c w f (j + 1) os l
 | j, .str s :: os, vs => ∃ l, vs = .string s :: l ∧ bd c w f (j + 1) os l
 | j, .dL :: os, vs => ∃ l, vs = .slice none 0 0 :: l ∧ bd c w f (j + 1) os l
 | j, .shr r xs :: os, vs => ∃ v l, vs = v :: l ∧ bL w c.ok (.sl r) v xs ∧ bd c w f (j + 1) os l
 | j, .own A :: os, vs => ∃ v l, vs = v :: l ∧ (∃ lc, OwnAt c w (f j) lc A v) ∧ bd c w f (j + 1) os l
 | j, .kC r xs :: os, vs => ∃ v l, vs = v :: l ∧ DP w c.ok r v xs ∧ bd c w f (j + 1) os l
 | j, .fn g rs xs :: os, vs => ∃ v l, vs = v :: l ∧ FnAt w c.ok g rs v xs ∧ bd c w f (j + 1) os l
def DZ (c : Cz) (w : World) (i : Nat) (os : List OV) (v : Value) : Prop :=
 ∃ mD vs ty, v = .pointer (some ⟨mD, 0, none⟩) ∧ c.own mD = some (.rE i) ∧ w.heap[mD]? = some (.cells vs ty (0, 0)) ∧ bd c w (.bK i) 0 os vs.toList
def Nk (c : Cz) (w : World) (i : Nat) (lc : Nat → Loc) (j : Nat) (o : OV) (u : Value) : Prop :=
 match o with
 | .own A => OwnAt c w (.bK i j) (lc j) A u
 | .dL => lc j = .nil
 | _ => True
def qT (c : Cz) (w : World) (i : Nat) (lc : Nat → Loc) : AV → Value → Prop
 | .val false os, v => bd c w (.bK i) 0 os [v]
 | .val true os, v => ∃ vs, v = .agg vs ∧ bd c w (.bK i) 0 os vs.toList
 | .io A, v => OwnAt c w (.bK i 0) (lc 0) A v
 | .box os, v => DZ c w i os v
 | .bD os, v => ∃ vs, v = .agg vs ∧ bd c w (.bK i) 0 os vs.toList ∧ ∀ j o u, os[j]? = some o → vs.toList[j]? = some u → Nk c w i lc j o u
def wJ (c : Cz) (w : World) (lc : Nat → Nat → Loc) : (i : Nat) → List AV → List Value → Prop
 | _, [], vs => vs = []
 | i, a :: as, vs => ∃ v l, vs = v :: l ∧ qT c w i (lc i) a v ∧ wJ c w lc (i + 1) as l
def Kb (c : Cz) (w : World) (i : Nat) (lc : Nat → Loc) (os : List OV) (us : List Value) (As : List (Option gr)) : Prop :=
 ∀ j A, os[j]? = some (.own A) → ∃ B u, nth As j = some (some B) ∧ us[j]? = some u ∧ B.r.width = A.r.width ∧ B.xs.length = A.xs.length ∧ OwnAt c w (.bK i j) (lc j) B u
def gO (c : Cz) (w : World) (lc : Nat → Nat → Loc) : (i : Nat) → List AV → List Value → List XV → Prop
 | _, [], _, xs => xs = []
 | _, _ :: _, [], _ => False
 | i, .val _ _ :: as, _ :: vs, xs => gO c w lc (i + 1) as vs xs
 | i, .io A :: as, v :: vs, xs => ∃ B l, xs = .io B :: l ∧ B.r.width = A.r.width ∧ B.xs.length = A.xs.length ∧ OwnAt c w (.bK i 0) (lc i 0) B v ∧ gO c w lc (i + 1) as vs l
 | i, .box _ :: as, v :: vs, xs => ∃ os l, xs = .box os :: l ∧ DZ c w i os v ∧ gO c w lc (i + 1) as vs l
 | i, .bD os :: as, v :: vs, xs => ∃ As l, xs = .bD As :: l ∧ (∃ us, v = .agg us ∧ Kb c w i (lc i) os us.toList As) ∧ gO c w lc (i + 1) as vs l
def kD (c : Cz) (w : World) : (j : Nat) → List RV → List Value → Prop
 | _, [], vs => vs = []
 | j, .one o :: rs, vs => ∃ v l, vs = v :: l ∧ bd c w .gM j [o] [v] ∧ kD c w (j + 1) rs l
 | j, .agg os :: rs, vs => ∃ us l, vs = .agg us :: l ∧ bd c w .gM j os us.toList ∧ kD c w (j + os.length) rs l
 | j, .ptr os :: rs, vs => ∃ v l, vs = v :: l ∧ (∃ mD us ty, v = .pointer (some ⟨mD, 0, none⟩) ∧ c.own mD = some (.gM j) ∧ w.heap[mD]? = some (.cells us ty (0, 0)) ∧ bd c w .gM (j + 1) os us.toList) ∧ kD c w (j + (os.length + 1)) rs l
def pJ (c : Cz) (w : World) (rs : List RV) (v : Value) : Prop :=
 (∃ r, rs = [r] ∧ kD c w 0 [r] [v]) ∨ (rs.length ≠ 1 ∧ ∃ vs, v = .tuple vs ∧ kD c w 0 rs vs.toList)
structure zo (w0 : World) (mu : Mu) (c : Cz) (w : World) : Prop where
 owned : ∀ b l, c.own b = some l → b < w.heap.size ∧ (l = .out ∨ w0.heap.size ≤ b ∨ mu.m b)
 free : ∀ b, b < w0.heap.size → c.own b = none → mu.m b ∨ mu.ok b
 kept : w.os = w0.os ∧ w.tape = w0.tape ∧ w.output = w0.output ∧ w0.heap.size ≤ w.heap.size
 old : ∀ k, k < w0.heap.size → ¬ mu.m k → w.heap[k]? = w0.heap[k]?
def Lb.jD : Lb → Bool
 | .bK _ _ => true
 | .rE _ => true
 | _ => false
structure Handed (c : Cz) (w : World) (mu : Mu) : Prop where
 m : ∀ b, mu.m b ↔ ∃ l, c.own b = some l ∧ l.jD = true
 ok : ∀ b, mu.ok b ↔ c.own b = none
 lt : ∀ b l, c.own b = some l → b < w.heap.size
 lb : ∀ b l, c.own b = some l → l = .out ∨ l.jD = true
def FnOk (P : Program) (f : FuncId) (zU : ud) : Prop :=
 ∀ (c : Cz) (w : World) (mu : Mu) (lc : Nat → Nat → Loc) (dC : List AV) (args : Array Value) (A : Ans) (x : aq A.r), Handed c w mu → wJ c w lc 0 dC args.toList → zU dC = some A → A.o = some x →
   Calls P f args w fun e w' => ∃ v, e = .returned v ∧ ∃ c', zo w mu c' w' ∧ pJ c' w' (A.res x).outs v ∧ gO c' w' lc 0 dC args.toList (A.res x).exts
mutual
theorem bL.plain {w : World} {ok xO : Nat → Prop} : (t : Ty) → (v : Value) → (x : den t) → RT.dX (.cons t .nil) = false → bL w ok t v x → bL w xO t v x
 | .int _, _, _, _, h => by unfold bL at h ⊢; exact h
 | .bool, _, _, _, h => by unfold bL at h ⊢; exact h
 | .str, _, _, _, h => by unfold bL at h ⊢; exact h
 | .sl _, _, _, hs, _ => by simp [RT.dX] at hs
theorem cq.plain {w : World} {ok xO : Nat → Prop} : (r : RT) → (b off : Nat) → (x : aq r) → r.dX = false → cq w ok r b off x → cq w xO r b off x
 | .nil, _, _, _, _, _ => by unfold cq; trivial
 | .cons t r, b, off, x, hs, h => by
   unfold cq at h ⊢; obtain ⟨⟨v, h1, h2⟩, h3⟩ := h; refine ⟨⟨v, h1, bL.plain t v x.1 ?_ h2⟩, cq.plain r b (off + 1) x.2 ?_ h3⟩
   · cases t <;> simp_all [RT.dX]
   · cases t <;> simp_all [RT.dX]
end
structure Pass (c c' : Cz) (pd : Lb → Prop) : Prop where
 bK : ∀ b l, pd l → c.own b = some l → c'.own b = some l
 ok : ∀ b, c.ok b → c'.ok b
theorem OwnAt.pass {c c' : Cz} {w : World} {l : Lb} {lc : Loc} {A : gr} {v : Value} (hp : ∀ b, c.own b = some l → c'.own b = some l) (ho : (∀ b, c.ok b → c'.ok b) ∨ (!A.r.dX || A.md.is .dp) = true) (h : OwnAt c w l lc A v) : OwnAt c' w l lc A v := by
 unfold OwnAt at h ⊢; obtain ⟨h1, h2, h3, h4⟩ := h; refine ⟨h1, h2, h3, ?_⟩
 cases lc with
 | nil => exact h4
 | «at» b off cap =>
   obtain ⟨g1, g2, g3, g4⟩ := h4; refine ⟨hp b g1, g2, g3, ?_⟩
   by_cases PI : A.md = .sh ∧ A.r.dX = false
   · exact (bn.sh PI.1).2 fun i x hx => cq.plain _ _ _ _ PI.2 ((bn.sh PI.1).1 g4 i x hx)
   · refine g4.go (fun hm => ?_) rfl (fun _ k hk => ⟨rfl, hp k hk⟩); rcases ho with ho | ho
     · exact ⟨Nat.le_refl _, fun _ _ _ => rfl, fun b _ h => ho b h⟩
     · rw [hm] at ho; simp [Md.is] at ho; exact absurd ⟨hm, ho⟩ PI
theorem bd.pass {c c' : Cz} {w : World} {f : Nat → Lb} (hp : ∀ b j, c.own b = some (f j) → c'.own b = some (f j)) : (os : List OV) → ((∀ b, c.ok b → c'.ok b) ∨ os.all OV.plain = true) → (j : Nat) → (vs : List Value) → bd c w f j os vs → bd c' w f j os vs
 | [], _, _, _, h => h
 | .int k n :: os, ho, j, vs, h => by
   obtain ⟨l, h1, h2⟩ := h; exact ⟨l, h1, bd.pass hp os (ho.imp id fun h => by simp at h; simpa using h.2) (j + 1) l h2⟩
 | .bool k :: os, ho, j, vs, h => by
   obtain ⟨l, h1, h2⟩ := h; exact ⟨l, h1, bd.pass hp os (ho.imp id fun h => by simp at h; simpa using h.2) (j + 1) l h2⟩
 | .str k :: os, ho, j, vs, h => by
   obtain ⟨l, h1, h2⟩ := h; exact ⟨l, h1, bd.pass hp os (ho.imp id fun h => by simp at h; simpa using h.2) (j + 1) l h2⟩
 | .dL :: os, ho, j, vs, h => by
   obtain ⟨l, h1, h2⟩ := h; exact ⟨l, h1, bd.pass hp os (ho.imp id fun h => by simp at h; simpa using h.2) (j + 1) l h2⟩
 | .shr r xs :: os, ho, j, vs, h => by
   obtain ⟨v, l, h1, h2, h3⟩ := h; refine ⟨v, l, h1, ?_, bd.pass hp os (ho.imp id fun h => by simp at h; simpa using h.2) (j + 1) l h3⟩; rcases ho with ho | ho
   · exact bL.stays ⟨Nat.le_refl _, fun _ _ _ => rfl, fun b _ h => ho b h⟩ _ _ _ h2
   · simp [OV.plain] at ho
 | .kC r xs :: os, ho, j, vs, h => by
   obtain ⟨v, l, h1, h2, h3⟩ := h; refine ⟨v, l, h1, ?_, bd.pass hp os (ho.imp id fun h => by simp at h; simpa using h.2) (j + 1) l h3⟩; rcases ho with ho | ho
   · exact h2.stays ⟨Nat.le_refl _, fun _ _ _ => rfl, fun b _ h => ho b h⟩
   · simp [OV.plain] at ho
 | .fn g rs xs :: os, ho, j, vs, h => by
   obtain ⟨v, l, h1, h2, h3⟩ := h; refine ⟨v, l, h1, ?_, bd.pass hp os (ho.imp id fun h => by simp at h; simpa using h.2) (j + 1) l h3⟩; rcases ho with ho | ho
   · exact h2.stays ⟨Nat.le_refl _, fun _ _ _ => rfl, fun b _ h => ho b h⟩
   · simp [OV.plain] at ho
 | .own A :: os, ho, j, vs, h => by
   obtain ⟨v, l, h1, ⟨lc, h2⟩, h3⟩ := h; refine ⟨v, l, h1, ⟨lc, h2.pass (fun b => hp b j) (ho.imp id fun h => ?_)⟩, bd.pass hp os (ho.imp id fun h => by simp at h; simpa using h.2) (j + 1) l h3⟩; rw [List.all_cons, Bool.and_eq_true] at h; exact h.1
theorem DZ.pass {c c' : Cz} {w : World} {i : Nat} {os : List OV} {v : Value} (hb : ∀ b, c.own b = some (.rE i) → c'.own b = some (.rE i)) (hp : ∀ b j, c.own b = some (.bK i j) → c'.own b = some (.bK i j)) (ho : (∀ b, c.ok b → c'.ok b) ∨ os.all OV.plain = true) (h : DZ c w i os v) : DZ c' w i os v := by
 obtain ⟨mD, vs, ty, h1, h2, h3, h4⟩ := h; exact ⟨mD, vs, ty, h1, hb _ h2, h3, bd.pass hp os ho 0 _ h4⟩
theorem kD.pass {c c' : Cz} {w : World} (hp : ∀ b j, c.own b = some (.gM j) → c'.own b = some (.gM j)) : (rs : List RV) → ((∀ b, c.ok b → c'.ok b) ∨ rs.all (fun o => o.uk.all OV.plain) = true) → (j : Nat) → (vs : List Value) → kD c w j rs vs → kD c' w j rs vs
 | [], _, _, _, h => h
 | .one o :: rs, ho, j, vs, h => by
   obtain ⟨v, l, h1, h2, h3⟩ := h; exact ⟨v, l, h1, bd.pass hp [o] (ho.imp id fun h => by simp [RV.uk] at h; simpa using h.1) _ _ h2, kD.pass hp rs (ho.imp id fun h => by simp at h; simpa using h.2) _ _ h3⟩
 | .agg os :: rs, ho, j, vs, h => by
   obtain ⟨v, l, h1, h2, h3⟩ := h; exact ⟨v, l, h1, bd.pass hp os (ho.imp id fun h => by simp [RV.uk] at h; simpa using h.1) _ _ h2, kD.pass hp rs (ho.imp id fun h => by simp at h; simpa using h.2) _ _ h3⟩
 | .ptr os :: rs, ho, j, vs, h => by
   obtain ⟨v, l, h1, ⟨mD, us, ty, g1, g2, g3, g4⟩, h3⟩ := h; exact ⟨v, l, h1, ⟨mD, us, ty, g1, hp _ _ g2, g3, bd.pass hp os (ho.imp id fun h => by simp [RV.uk] at h; simpa using h.1.2) _ _ g4⟩, kD.pass hp rs (ho.imp id fun h => by simp at h; simpa using h.2) _ _ h3⟩
theorem pJ.pass {c c' : Cz} {w : World} (hp : ∀ b j, c.own b = some (.gM j) → c'.own b = some (.gM j)) {rs : List RV} (ho : (∀ b, c.ok b → c'.ok b) ∨ rs.all (fun o => o.uk.all OV.plain) = true) {v : Value} (h : pJ c w rs v) : pJ c' w rs v := by
 rcases h with ⟨r, h1, h2⟩ | ⟨h1, vs, h2, h3⟩
 · subst h1; exact .inl ⟨r, rfl, kD.pass hp _ ho _ _ h2⟩
 · exact .inr ⟨h1, vs, h2, kD.pass hp _ ho _ _ h3⟩
theorem Kb.pass {c c' : Cz} {w : World} {i : Nat} {lc : Nat → Loc} {os : List OV} {us : List Value} {As : List (Option gr)} (hp : ∀ b j, c.own b = some (.bK i j) → c'.own b = some (.bK i j)) (ho : (∀ b, c.ok b → c'.ok b) ∨ XV.plain (.bD As) = true) (h : Kb c w i lc os us As) : Kb c' w i lc os us As := by
 intro j A hA; obtain ⟨B, u, h1, h2, h3, h4, h5⟩ := h j A hA; refine ⟨B, u, h1, h2, h3, h4, h5.pass (fun b => hp b j) (ho.imp id fun h => ?_)⟩; have hm : some B ∈ As := by rw [fK] at h1; exact List.mem_of_getElem? h1
 have := List.all_eq_true.1 h _ hm; simpa using this
theorem gO.pass {c c' : Cz} {w : World} {lc : Nat → Nat → Loc} : (as : List AV) → (i : Nat) → (hb : ∀ b k, i ≤ k → c.own b = some (.rE k) → c'.own b = some (.rE k)) → (hp : ∀ b k j, i ≤ k → c.own b = some (.bK k j) → c'.own b = some (.bK k j)) → (vs : List Value) → (xs : List XV) → ((∀ b, c.ok b → c'.ok b) ∨ xs.all XV.plain = true) → gO c w lc i as vs xs → gO c' w lc i as vs xs
 | [], _, _, _, _, _, _, h => h
 | _ :: _, _, _, _, [], _, _, h => h.elim
 | .val _ _ :: as, i, hb, hp, _ :: vs, xs, ho, h => gO.pass as (i + 1) (fun b k hk => hb b k (by omega)) (fun b k j hk => hp b k j (by omega)) vs xs ho h
 | .io A :: as, i, hb, hp, v :: vs, xs, ho, h => by
   obtain ⟨B, l, h1, h2, h3, h4, h5⟩ := h; subst h1; refine ⟨B, l, rfl, h2, h3, h4.pass (fun b => hp b i 0 (Nat.le_refl _)) (ho.imp id fun h => by rw [List.all_cons, Bool.and_eq_true] at h; exact h.1), gO.pass as (i + 1) (fun b k hk => hb b k (by omega)) (fun b k j hk => hp b k j (by omega)) vs l (ho.imp id fun h => by simp at h; simpa using h.2) h5⟩
 | .bD _ :: as, i, hb, hp, v :: vs, xs, ho, h => by
   obtain ⟨As, l, h1, ⟨us, h2, h3⟩, h4⟩ := h; subst h1; refine ⟨As, l, rfl, ⟨us, h2, h3.pass (fun b j => hp b i j (Nat.le_refl _)) (ho.imp id fun h => by rw [List.all_cons, Bool.and_eq_true] at h; exact h.1)⟩, gO.pass as (i + 1) (fun b k hk => hb b k (by omega)) (fun b k j hk => hp b k j (by omega)) vs l (ho.imp id fun h => by rw [List.all_cons, Bool.and_eq_true] at h; exact h.2) h4⟩
 | .box _ :: as, i, hb, hp, v :: vs, xs, ho, h => by
   obtain ⟨os, l, h1, h2, h3⟩ := h; subst h1; refine ⟨os, l, rfl, h2.pass (fun b => hb b i (Nat.le_refl _)) (fun b j => hp b i j (Nat.le_refl _)) (ho.imp id fun h => by simp [XV.plain] at h; simpa using h.1), gO.pass as (i + 1) (fun b k hk => hb b k (by omega)) (fun b k j hk => hp b k j (by omega)) vs l (ho.imp id fun h => by simp at h; simpa using h.2) h3⟩
end Go.TM
namespace Go.TM
open Go Go.RowKit
def Cz.map (c : Cz) (ρ : Lb → Option Lb) : Cz := { bx := c.bx, lc := c.lc, own := fun b => (c.own b).bind ρ }
theorem Cz.rj {c : Cz} {ρ : Lb → Option Lb} {b : Nat} (h : c.ok b) : (c.map ρ).ok b := by
 unfold Cz.ok Cz.map at *; simp [h]
theorem Cz.map_some {c : Cz} {ρ : Lb → Option Lb} {b : Nat} {l : Lb} (h : (c.map ρ).own b = some l) : ∃ k, c.own b = some k ∧ ρ k = some l := by
 unfold Cz.map at h; exact Option.bind_eq_some_iff.1 h
theorem Cz.jI {c : Cz} {ρ : Lb → Option Lb} {b : Nat} {l : Lb} (h : c.own b = some l) : (c.map ρ).own b = ρ l := by
 unfold Cz.map; simp [h]
theorem bn.map {c : Cz} {w : World} {l l' : Lb} {A : gr} {b off : Nat} (h : bn c w l A b off) {ρ : Lb → Option Lb} (hρ : ρ l = some l') : bn (c.map ρ) w l' A b off :=
 h.go (fun _ => ⟨Nat.le_refl _, fun _ _ _ => rfl, fun b _ hb => Cz.rj hb⟩) rfl (fun _ _ hk => ⟨rfl, (Cz.jI hk).trans hρ⟩)
theorem Nl {c : Cz} {w : World} {s j : Nat} {A : gr} (h : bM c w s j A) (ho : A.own = true) {vw : View} {u : Value} (h1 : u.oneCell' = true) (hu : iB (c.lc s j) A.r.width vw.lo (vw.app A.xs).length u)
   {ρ : Lb → Option Lb} {l : Lb} (hρ : ρ (.sp s j) = some l) (Dc : A.md.is .sh = true ∨ vw.isFull = true) : ∃ lc, OwnAt (c.map ρ) w l lc { A with xs := vw.app A.xs } u := by
 cases hl : c.lc s j with
 | nil =>
   unfold iB at hu; rw [hl] at hu; exact ⟨.nil, h1, hu, ho, List.length_eq_zero_iff.1 hu.2⟩
 | «at» b off cap =>
   unfold iB at hu; rw [hl] at hu; obtain ⟨a, k, rfl, hk, xR, ha⟩ := hu; unfold bM at h; rw [hl] at h; obtain ⟨h0, _, ⟨cur, ty, h3, h4⟩, h5⟩ := h; rw [ho] at h0; refine ⟨.at b (off + vw.lo * A.r.width) k, h1, ⟨a, k, rfl, hk, by omega, by simpa using ha⟩, ho, (Cz.jI h0).trans hρ, hk, ⟨cur, ty, h3, ?_⟩, ?_⟩
   · have : (vw.lo + k) * A.r.width ≤ cap * A.r.width := Nat.mul_le_mul_right _ xR; rw [Nat.add_mul] at this; show off + vw.lo * A.r.width + k * A.r.width ≤ cur.size; omega
   · have ZF : A.md = .sh ∨ A.md ≠ .sh := Classical.em _; rcases ZF with hm | hm
     · refine bn.M4 hm fun i x hi => ?_
       have := (bn.sh hm).1 h5 _ x (View.vM vw A.xs hi); have e : off + vw.lo * A.r.width + i * A.r.width = off + (vw.lo + i) * A.r.width := by rw [Nat.add_mul]; omega
       rw [e]; exact cq.stays ⟨Nat.le_refl _, fun _ _ _ => rfl, fun b _ hb => Cz.rj hb⟩ _ _ _ x rfl this
     · have hf : vw = .full := by
         rcases Dc with Dc | Dc
         · exact absurd (Md.lg.1 Dc) hm
         · cases vw with
           | full => rfl
           | «from» _ => cases Dc
           | sub _ _ => cases Dc
       subst hf; have := h5.go (c' := c.map ρ) (w' := w) (l' := l) (fun e => absurd e hm) rfl (fun _ k hk => ⟨rfl, (Cz.jI hk).trans hρ⟩); simpa [View.lo, View.app] using this
theorem eK.Q2 {c : Cz} {st : St} {w : World} {x : CV} {cs : List CV} {vs : List Value} (h : eK c st w (x :: cs) vs) : ∃ v l, vs = v :: l ∧ iT c st w x v ∧ eK c st w cs l := by
 obtain ⟨h1, h2⟩ := h
 cases vs with
 | nil => simp at h1
 | cons v l => exact ⟨v, l, rfl, h2 0 x v rfl rfl, by simpa using h1, fun i y u hy hu => h2 (i + 1) y u (by simpa using hy) (by simpa using hu)⟩
theorem ln {α : Type} (l m : List α) (n : Nat) : nth (l ++ m) n = if n < l.length then nth l n else nth m (n - l.length) := by
 simp only [fK]
 by_cases h : n < l.length
 · rw [if_pos h, List.getElem?_append_left h]
 · rw [if_neg h, List.getElem?_append_right (by omega)]
theorem vQ {w0 : World} {mu : Mu} {c : Cz} {st : St} {a : Act} {w : World} (h : Rel w0 mu c st a w) {s j g : Nat} {A : gr} (hA : aQ st s j g = some A) : bM c w s j A := by
 obtain ⟨sl, h1, _, h3⟩ := bc hA; exact h.aJ s j sl A h1 h3
theorem zp {w : World} {P : List Nat → Nat → Prop} {q : RT} {ys : List (aq q)} {b : Nat} : (r : RT) → (p : List Nat) → (k0 off : Nat) → (x : aq r) → (k : Nat) → fM w P r p k0 b off x → oI r x k = some ⟨q, ys⟩ → ∃ v, w.cell? ⟨b, off + k, none⟩ = some v ∧ dt w P (.sl q) (p ++ [k0 + k]) v ys
 | .nil, _, _, _, _, _, _, h => by simp [oI] at h
 | .cons t r, p, k0, off, x, 0, hd, h => by
   unfold fM at hd; obtain ⟨⟨v, h1, h2⟩, _⟩ := hd
   cases t with
   | sl q' =>
     have h : some (⟨q', x.1⟩ : (q : RT) × List (aq q)) = some ⟨q, ys⟩ := h; injection h with h; injection h with e1 e2; subst e1; have e2 := eq_of_heq e2; subst e2; exact ⟨v, h1, h2⟩
   | int _ => simp [oI] at h
   | bool => simp [oI] at h
   | str => simp [oI] at h
 | .cons t r, p, k0, off, x, k + 1, hd, h => by
   unfold fM at hd; have h' : oI r x.2 k = some ⟨q, ys⟩ := by cases t <;> exact h
   obtain ⟨v, h1, h2⟩ := zp r p (k0 + 1) (off + 1) x.2 k hd.2 h'; exact ⟨v, by rw [show off + (k + 1) = off + 1 + k by omega]; exact h1, by rw [show k0 + (k + 1) = k0 + 1 + k by omega]; exact h2⟩
theorem Gt {c : Cz} {st : St} {w : World} {a j g e i k : Nat} {q : RT} {ys : List (aq q)} {v : Value} {A : gr} (hx : iT c st w (.nQ a j g e i k q ys) v) (hA : aQ st a j g = some A) (he : lh st a = e) (ha : bM c w a j A) :
   ∃ (gg : Nat → List Nat) (b o cap : Nat), c.lc a j = .at b o cap ∧ A.md = .dp ∧ gg b = [] ∧ w.cell? ⟨b, o + i * A.r.width + k, none⟩ = some v ∧ (∀ (i : Nat) x, A.xs[i]? = some x → fM w (fun p k => c.own k = some (.sp a j) ∧ gg k = p) A.r [i] 0 b (o + i * A.r.width) x) ∧
     (∃ x, A.xs[i]? = some x ∧ oI A.r x k = some ⟨q, ys⟩) ∧ dt w (fun p k => c.own k = some (.sp a j) ∧ gg k = p) (.sl q) [i, k] v ys := by
 obtain ⟨_, _, _, h⟩ := hx; obtain ⟨hm, ⟨x, wF, WD⟩, b, o, cap, gz, rI⟩ := h A hA he; unfold bM at ha; rw [gz] at ha; obtain ⟨_, _, _, eX⟩ := ha; unfold bn at eX; rw [hm] at eX; obtain ⟨gg, J3, eX⟩ := eX; obtain ⟨v', h1, h2⟩ := zp A.r [i] 0 _ x k (eX i x wF) WD; rw [rI] at h1
 cases h1
 exact ⟨gg, b, o, cap, gz, hm, J3, rI, eX, ⟨x, wF, WD⟩, by simpa using h2⟩
theorem uH {st : St} {own : Bool} {q : RT} {y : aq q} {off : Nat} {o : OV} {u : Option Lb} {r : List (Nat × Nat)} (h : fq st own (.kC q y off) = some (o, u, r)) : o = .kC q [y] ∧ u = none ∧ r = [] := by
 unfold fq at h; obtain ⟨_, h⟩ := aH h; simp only [Option.some.injEq, Prod.mk.injEq] at h; exact ⟨h.1.symm, h.2.1.symm, h.2.2.symm⟩
theorem rK {st : St} {own : Bool} {q : RT} {y : List (aq q)} {off : Nat} {o : OV} {u : Option Lb} {r : List (Nat × Nat)} (h : fq st own (.re q y off) = some (o, u, r)) : o = .kC q y ∧ u = none ∧ r = [] := by
 unfold fq at h; obtain ⟨_, h⟩ := aH h; simp only [Option.some.injEq, Prod.mk.injEq] at h; exact ⟨h.1.symm, h.2.1.symm, h.2.2.symm⟩
theorem Kc {w0 : World} {mu : Mu} {c : Cz} {st : St} {a : Act} {w : World} (h : Rel w0 mu c st a w) {own : Bool} {ρ : Lb → Option Lb} {f : Nat → Lb} {j : Nat} {x : CV} {v : Value} (hx : iT c st w x v) {o : OV} {u : Option Lb} {r : List (Nat × Nat)}
   (hc : fq st own x = some (o, u, r)) (hu : ∀ l, u = some l → ρ l = some (f j)) (hr : ∀ p ∈ r, ρ (.sp p.1 p.2) = none) {os : List OV} {l : List Value} (hh : bd (c.map ρ) w f (j + 1) os l) : bd (c.map ρ) w f j (o :: os) (v :: l) := by
 cases x with
 | int k n =>
   simp only [fq, Option.some.injEq, Prod.mk.injEq] at hc; obtain ⟨rfl, rfl, _⟩ := hc; have e : v = .int k n := hx; exact ⟨l, by rw [e], hh⟩
 | bool n =>
   simp only [fq, Option.some.injEq, Prod.mk.injEq] at hc; obtain ⟨rfl, rfl, _⟩ := hc; have e : v = .bool n := hx; exact ⟨l, by rw [e], hh⟩
 | str n =>
   simp only [fq, Option.some.injEq, Prod.mk.injEq] at hc; obtain ⟨rfl, rfl, _⟩ := hc; have e : v = .string n := hx; exact ⟨l, by rw [e], hh⟩
 | dL =>
   simp only [fq, Option.some.injEq, Prod.mk.injEq] at hc; obtain ⟨rfl, rfl, _⟩ := hc; have e : v = .slice none 0 0 := hx; exact ⟨l, by rw [e], hh⟩
 | shr q xs =>
   simp only [fq, Option.some.injEq, Prod.mk.injEq] at hc; obtain ⟨rfl, rfl, _⟩ := hc; have e : bL w c.ok (.sl q) v xs := hx; exact ⟨v, l, rfl, bL.stays ⟨Nat.le_refl _, fun _ _ _ => rfl, fun b _ hb => Cz.rj hb⟩ _ _ _ e, hh⟩
 | nn q xs =>
   simp only [fq, Option.some.injEq, Prod.mk.injEq] at hc; obtain ⟨rfl, rfl, _⟩ := hc; have e : bL w c.ok (.sl q) v xs := hx.1; exact ⟨v, l, rfl, bL.stays ⟨Nat.le_refl _, fun _ _ _ => rfl, fun b _ hb => Cz.rj hb⟩ _ _ _ e, hh⟩
 | ref s k g vw =>
   unfold fq at hc; simp only at hc
   cases hA : aQ st s k g with
   | none => simp [hA] at hc
   | some A =>
     simp only [hA] at hc; have ha := vQ h hA; have hs := hx.2.2 A hA; have WE : A.md.DN = false := by cases hm : A.md <;> simp_all [Md.DN]
     have v8 := WE; simp only [WE, cond_false] at hc
     cases hb : (own && A.own && (A.md.is .sh || vw.isFull)) with
     | true =>
       simp only [hb, cond_true, Option.some.injEq, Prod.mk.injEq] at hc; obtain ⟨rfl, rfl, rfl⟩ := hc; rw [Bool.and_eq_true, Bool.and_eq_true, Bool.or_eq_true] at hb; obtain ⟨lc, g1⟩ := Nl ha hb.1.2 hx.1 hs (hu _ rfl) hb.2; exact ⟨v, l, rfl, ⟨lc, g1⟩, hh⟩
     | false =>
       simp only [hb, cond_false, Option.some.injEq, Prod.mk.injEq] at hc; obtain ⟨rfl, rfl, rfl⟩ := hc; refine ⟨v, l, rfl, ?_, hh⟩; refine xQ ha hs (fun b hb => Cz.rj hb) (fun b _ hk => ?_) v8; exact (Cz.jI hk).trans (hr (s, k) (by simp))
 | nQ s k g e i kk q ys =>
   unfold fq at hc; simp only at hc
   cases hA : aQ st s k g with
   | none => simp [hA] at hc
   | some A =>
     simp only [hA] at hc; obtain ⟨h1, hc⟩ := aH hc; rw [Bool.and_eq_true] at h1; simp only [Option.some.injEq, Prod.mk.injEq] at hc; obtain ⟨rfl, rfl, rfl⟩ := hc; obtain ⟨gg, b, o, cap, _, _, _, _, _, _, hd⟩ := Gt hx hA (Nat.eq_of_beq_eq_true h1.2).symm (vQ h hA); exact ⟨v, l, rfl, dt.rep (fun p kb hk => (Cz.jI hk.1).trans (hr (s, k) (by simp))) _ _ _ _ hd, hh⟩
 | bad => simp [fq] at hc
 | H2 => simp [fq] at hc
 | ptr _ _ _ => simp [fq] at hc
 | F5 _ _ _ _ _ => simp [fq] at hc
 | kC q y off =>
   unfold fq at hc; obtain ⟨h1, hc⟩ := aH hc; have h1 := Nat.eq_of_beq_eq_true h1; subst h1; simp only [Option.some.injEq, Prod.mk.injEq] at hc; obtain ⟨rfl, rfl, _⟩ := hc; obtain ⟨b, o, e1, e2, e3, e4⟩ := hx; refine ⟨v, l, rfl, ⟨b, o, e1, e2, Cz.rj e3, fun z hz => ?_⟩, hh⟩; simp at hz; subst hz; exact cq.stays ⟨Nat.le_refl _, fun _ _ _ => rfl, fun b _ hb => Cz.rj hb⟩ _ _ _ _ rfl e4
 | re q ys off =>
   unfold fq at hc; obtain ⟨h1, hc⟩ := aH hc; have h1 := Nat.eq_of_beq_eq_true h1; subst h1; simp only [Option.some.injEq, Prod.mk.injEq] at hc; obtain ⟨rfl, rfl, _⟩ := hc; obtain ⟨b, o, e1, e2, e3, e4⟩ := hx; exact ⟨v, l, rfl, ⟨b, o, e1, e2, Cz.rj e3, fun z hz => cq.stays ⟨Nat.le_refl _, fun _ _ _ => rfl, fun b _ hb => Cz.rj hb⟩ _ _ _ _ rfl (e4 z hz)⟩, hh⟩
 | fn g rs ys =>
   simp only [fq, Option.some.injEq, Prod.mk.injEq] at hc; obtain ⟨rfl, rfl, _⟩ := hc; have hx : FnAt w c.ok g rs v ys := hx; exact ⟨v, l, rfl, hx.stays ⟨Nat.le_refl _, fun _ _ _ => rfl, fun b _ hb => Cz.rj hb⟩, hh⟩
theorem Ke {w0 : World} {mu : Mu} {c : Cz} {st : St} {a : Act} {w : World} (h : Rel w0 mu c st a w) {own : Bool} {ρ : Lb → Option Lb} {f : Nat → Lb} : (cs : List CV) → (vs : List Value) → (j : Nat) → eK c st w cs vs → {os : List OV} → {u : List (Option Lb)} → {r : List (Nat × Nat)} →
   eI st own cs = some (os, u, r) → (∀ k l, nth u k = some (some l) → ρ l = some (f (j + k))) → (∀ p ∈ r, ρ (.sp p.1 p.2) = none) → bd (c.map ρ) w f j os vs
 | [], vs, j, hl, os, u, r, he, _, _ => by
   simp only [eI, Option.some.injEq, Prod.mk.injEq] at he; obtain ⟨rfl, rfl, rfl⟩ := he; have := hl.1; simp at this; exact List.length_eq_zero_iff.1 this.symm
 | x :: cs, vs, j, hl, os, u, r, he, hu, hr => by
   obtain ⟨v, l, rfl, hx, wk⟩ := hl.Q2; unfold eI at he
   cases hc : fq st own x with
   | none => simp [hc] at he
   | some p =>
     obtain ⟨o, u1, r1⟩ := p
     cases hq : eI st own cs with
     | none => simp [hc, hq] at he
     | some q =>
       obtain ⟨yc, us, rs⟩ := q; simp only [hc, hq, Option.some.injEq, Prod.mk.injEq] at he; obtain ⟨rfl, rfl, rfl⟩ := he; refine Kc h hx hc (fun l hl => hu 0 l (by rw [hl]; rfl)) (fun p hp => hr p (List.mem_append_left _ hp)) ?_; refine Ke h cs l (j + 1) wk hq (fun k' l' hk => ?_) (fun p hp => hr p (List.mem_append_right _ hp)); have := hu (k' + 1) l' hk
       rwa [show j + (k' + 1) = j + 1 + k' by omega] at this
end Go.TM
namespace Go.TM
open Go Go.RowKit
def Lb.real : Lb → Bool
 | .box _ => true
 | .sp _ _ => true
 | _ => false
theorem Lb.yd {x y : Lb} (hx : x.real = true) : Lb.same x y = true ↔ x = y := by
 cases x <;> cases y <;> simp [Lb.same, Lb.real] at hx ⊢
theorem nb : (l : List Lb) → (∀ x ∈ l, x.real = true) → sr l = true → l.Nodup
 | [], _, _ => List.nodup_nil
 | x :: l, hr, h => by
   simp only [sr, Bool.and_eq_true, List.all_eq_true] at h; refine List.nodup_cons.2 ⟨fun hm => ?_, nb l (fun y hy => hr y (List.mem_cons_of_mem _ hy)) h.2⟩; have := h.1 x hm; rw [(Lb.yd (hr x List.mem_cons_self)).2 rfl] at this
   cases this
noncomputable def look : List (Lb × Lb) → Lb → Option Lb
 | [], _ => none
 | (x, y) :: t, l => have := Classical.propDecidable (x = l); if x = l then some y else look t l
theorem yf : (t : List (Lb × Lb)) → (t.map (·.1)).Nodup → {p : Lb × Lb} → p ∈ t → look t p.1 = some p.2
 | [], _, _, h => by simp at h
 | (x, y) :: t, hn, p, h => by
   unfold look; simp only [List.map_cons, List.nodup_cons] at hn
   by_cases e : x = p.1
   · rw [if_pos e]; rcases List.mem_cons.1 h with rfl | h
     · rfl
     · exact absurd (List.mem_map.2 ⟨p, h, e.symm⟩) hn.1
   · rw [if_neg e]; rcases List.mem_cons.1 h with rfl | h
     · exact absurd rfl e
     · exact yf t hn.2 h
theorem vR : (t : List (Lb × Lb)) → {l y : Lb} → look t l = some y → (l, y) ∈ t
 | [], _, _, h => by simp [look] at h
 | (x, z) :: t, l, y, h => by
   unfold look at h
   by_cases e : x = l
   · rw [if_pos e] at h
     cases h
     subst e; exact List.mem_cons_self
   · rw [if_neg e] at h; exact List.mem_cons_of_mem _ (vR t h)
def yh (f : Nat → Lb) : (j : Nat) → List (Option Lb) → List (Lb × Lb)
 | _, [] => []
 | j, some l :: ls => (l, f j) :: yh f (j + 1) ls
 | j, none :: ls => yh f (j + 1) ls
theorem yl (f : Nat → Lb) : (j : Nat) → (ls : List (Option Lb)) → (yh f j ls).map (·.1) = bI ls
 | _, [] => rfl
 | j, some l :: ls => by simp [yh, bI, yl f (j + 1) ls]
 | j, none :: ls => by simp [yh, bI, yl f (j + 1) ls]
theorem BN (f : Nat → Lb) : (j : Nat) → (ls : List (Option Lb)) → ∀ p ∈ yh f j ls, ∃ k, p.2 = f k
 | _, [], p, h => by simp [yh] at h
 | j, some l :: ls, p, h => by
   simp only [yh, List.mem_cons] at h; rcases h with rfl | h
   · exact ⟨j, rfl⟩
   · exact BN f (j + 1) ls p h
 | j, none :: ls, p, h => BN f (j + 1) ls p h
theorem uI (f : Nat → Lb) : (j : Nat) → (ls : List (Option Lb)) → ∀ k l, nth ls k = some (some l) → (l, f (j + k)) ∈ yh f j ls
 | _, [], k, l, h => by simp at h
 | j, x :: ls, 0, l, h => by
   simp only [nth, Option.some.injEq] at h; subst h; exact List.mem_cons_self
 | j, x :: ls, k + 1, l, h => by
   have := uI f (j + 1) ls k l h; rw [show j + (k + 1) = j + 1 + k by omega]
   cases x with
   | none => exact this
   | some x => exact List.mem_cons_of_mem _ this
theorem gd {l : Lb} : {ls : List (Option Lb)} → l ∈ bI ls ↔ some l ∈ ls
 | [] => by simp [bI]
 | none :: ls => by simp [bI, gd (ls := ls)]
 | some x :: ls => by simp [bI, gd (ls := ls)]
def It (c : Cz) : Option CV → Loc
 | some (.ref a j _ _) => c.lc a j
 | _ => .nil
def Ae (c : Cz) : V → Nat → Loc
 | .one (.ref a j _ _) => fun _ => c.lc a j
 | .agg cs => fun k => It c cs[k]?
 | _ => fun _ => .nil
theorem Kf {st : St} {own : Bool} : (cs : List CV) → {os : List OV} → {u : List (Option Lb)} → {r : List (Nat × Nat)} → eI st own cs = some (os, u, r) → ∀ (k : Nat) (o : OV), os[k]? = some o → ∃ x u' r', cs[k]? = some x ∧ fq st own x = some (o, u', r') ∧ nth u k = some u'
 | [], _, _, _, h => by
   simp only [eI, Option.some.injEq, Prod.mk.injEq] at h; obtain ⟨rfl, rfl, _⟩ := h; intro k o hk; simp at hk
 | x :: cs, os, u, r, h => by
   unfold eI at h
   cases hc : fq st own x with
   | none => simp [hc] at h
   | some p =>
     obtain ⟨o, u1, r1⟩ := p
     cases hq : eI st own cs with
     | none => simp [hc, hq] at h
     | some q =>
       obtain ⟨yc, us, rs⟩ := q; simp only [hc, hq, Option.some.injEq, Prod.mk.injEq] at h; obtain ⟨rfl, rfl, _⟩ := h; intro k o' hk
       cases k with
       | zero =>
         simp only [List.getElem?_cons_zero, Option.some.injEq] at hk; subst hk; exact ⟨x, u1, r1, rfl, hc, rfl⟩
       | succ k =>
         obtain ⟨y, u', r', h1, h2, h3⟩ := Kf cs hq k o' (by simpa using hk); exact ⟨y, u', r', by simpa using h1, h2, h3⟩
theorem Nn {st : St} {own : Bool} {x : CV} {A : gr} {u : Option Lb} {r : List (Nat × Nat)} (h : fq st own x = some (.own A, u, r)) : ∃ a j g w B, x = .ref a j g w ∧ aQ st a j g = some B ∧ A = { B with xs := w.app B.xs } ∧ u = some (.sp a j) ∧ B.own = true := by
 cases x with
 | ref a j g w =>
   unfold fq at h; simp only at h
   cases hA : aQ st a j g with
   | none => simp [hA] at h
   | some B =>
     simp only [hA] at h
     cases hm : B.md.DN with
     | true => simp [hm] at h
     | false =>
     simp only [hm, cond_false] at h
     cases hb : (own && B.own && (B.md.is .sh || w.isFull)) with
     | false => simp [hb] at h
     | true =>
       simp only [hb, cond_true, Option.some.injEq, Prod.mk.injEq] at h; obtain ⟨h1, rfl, _⟩ := h; injection h1 with h1; rw [Bool.and_eq_true, Bool.and_eq_true] at hb; exact ⟨a, j, g, w, B, rfl, hA, h1.symm, rfl, hb.1.2⟩
 | nQ a j g e i k q ys =>
   unfold fq at h; simp only at h
   cases hA : aQ st a j g with
   | none => simp [hA] at h
   | some B =>
     simp only [hA] at h; obtain ⟨_, h⟩ := aH h; simp at h
 | kC q y off => exact absurd (uH h).1 (by simp)
 | re q y off => exact absurd (rK h).1 (by simp)
 | _ => simp [fq] at h
theorem K4 {st : St} {own : Bool} {x : CV} {u : Option Lb} {r : List (Nat × Nat)} (h : fq st own x = some (.dL, u, r)) : x = .dL := by
 cases x with
 | ref a j g w =>
   unfold fq at h; simp only at h
   cases hA : aQ st a j g with
   | none => simp [hA] at h
   | some B =>
     simp only [hA] at h
     cases hm : B.md.DN with
     | true => simp [hm] at h
     | false =>
     simp only [hm, cond_false] at h
     cases hb : (own && B.own && (B.md.is .sh || w.isFull)) <;> simp [hb] at h
 | nQ a j g e i k q ys =>
   unfold fq at h; simp only at h
   cases hA : aQ st a j g with
   | none => simp [hA] at h
   | some B =>
     simp only [hA] at h; obtain ⟨_, h⟩ := aH h; simp at h
 | dL => rfl
 | kC q y off => exact absurd (uH h).1 (by simp)
 | re q y off => exact absurd (rK h).1 (by simp)
 | _ => simp [fq] at h
theorem D0 {st : St} {own : Bool} {x : CV} {o : OV} {u : Option Lb} {r : List (Nat × Nat)} (h : fq st own x = some (o, u, r)) : ∀ l, u = some l → ∃ s j, l = .sp s j := by
 cases x with
 | ref a j g w =>
   unfold fq at h; simp only at h
   cases hA : aQ st a j g with
   | none => simp [hA] at h
   | some A =>
     simp only [hA] at h
     cases hm : A.md.DN with
     | true => simp [hm] at h
     | false =>
     simp only [hm, cond_false] at h
     cases hb : (own && A.own && (A.md.is .sh || w.isFull)) <;> simp only [hb, cond_true, cond_false, Option.some.injEq, Prod.mk.injEq] at h <;> obtain ⟨_, rfl, _⟩ := h <;> simp
 | nQ a j g e i k q ys =>
   unfold fq at h; simp only at h
   cases hA : aQ st a j g with
   | none => simp [hA] at h
   | some B =>
     simp only [hA] at h; obtain ⟨_, h⟩ := aH h; simp only [Option.some.injEq, Prod.mk.injEq] at h; obtain ⟨_, rfl, _⟩ := h; simp
 | kC q y off => obtain ⟨_, rfl, _⟩ := uH h; simp
 | re q y off => obtain ⟨_, rfl, _⟩ := rK h; simp
 | _ => simp [fq] at h <;> (try (obtain ⟨_, rfl, _⟩ := h; simp))
theorem vS {st : St} {own : Bool} : (cs : List CV) → {os : List OV} → {u : List (Option Lb)} → {r : List (Nat × Nat)} → eI st own cs = some (os, u, r) → ∀ l ∈ bI u, ∃ s j, l = .sp s j
 | [], _, _, _, h => by
   simp only [eI, Option.some.injEq, Prod.mk.injEq] at h; obtain ⟨_, rfl, _⟩ := h; simp [bI]
 | x :: cs, os, u, r, h => by
   unfold eI at h
   cases hc : fq st own x with
   | none => simp [hc] at h
   | some p =>
     obtain ⟨o, u1, r1⟩ := p
     cases hq : eI st own cs with
     | none => simp [hc, hq] at h
     | some q =>
       obtain ⟨yc, us, rs⟩ := q; simp only [hc, hq, Option.some.injEq, Prod.mk.injEq] at h; obtain ⟨_, rfl, _⟩ := h; intro l hl; rw [gd] at hl; rcases List.mem_cons.1 hl with hl | hl
       · exact D0 hc l hl.symm
       · exact vS cs hq l (gd.2 hl)
theorem K5 {st : St} {own : Bool} (cs : List CV) {os : List OV} {u : List (Option Lb)} {r : List (Nat × Nat)} (h : eI st own cs = some (os, u, r)) : ∀ l ∈ bI u, l.real = true := by
 intro l hl; obtain ⟨s, j, rfl⟩ := vS cs h l hl; rfl
def iU (i : Nat) (av : AV) (bx : List Lb) (u : List (Option Lb)) : List (Lb × Lb) :=
 bx.map (fun l => (l, .rE i)) ++ yh (.bK i) 0 u
theorem lq (i : Nat) (av : AV) (bx : List Lb) (u : List (Option Lb)) : (iU i av bx u).map (·.1) = bx ++ bI u := by
 unfold iU; rw [List.map_append, yl, List.map_map]
 congr 1
 exact List.map_id bx
theorem lr (i : Nat) (av : AV) (bx : List Lb) (u : List (Option Lb)) : ∀ p ∈ iU i av bx u, p.2.jD = true := by
 intro p hp; unfold iU at hp; rcases List.mem_append.1 hp with hp | hp
 · obtain ⟨l, _, rfl⟩ := List.mem_map.1 hp; rfl
 · obtain ⟨k, e⟩ := BN _ _ _ p hp; rw [e]; rfl
theorem K6 {w0 : World} {mu : Mu} {c : Cz} {st : St} {a : Act} {w : World} (h : Rel w0 mu c st a w) {m : Pm} {v : V} {x : Value} (hx : eo c st w v x) {av : AV} {u q : List Lb} {r : List (Nat × Nat)} (he : dY st m v = some (av, u, q, r)) (i : Nat) :
   (∀ l ∈ u, l.real = true) ∧ (∀ l ∈ q, l ∈ u) ∧ ∃ tb : List (Lb × Lb), tb.map (·.1) = u ∧ (∀ p ∈ tb, p.2.jD = true) ∧ ∀ ρ : Lb → Option Lb, (∀ p ∈ tb, ρ p.1 = some p.2) → (∀ p ∈ r, ρ (.sp p.1 p.2) = none) → qT (c.map ρ) w i (Ae c v) av x := by
 have vals : ∀ (own : Bool) (cs : List CV) (os : List OV) (us : List (Option Lb)) (rs : List (Nat × Nat)) (vs : List Value), eK c st w cs vs → eI st own cs = some (os, us, rs) → (∀ l ∈ bI us, l.real = true) ∧
     ∀ ρ : Lb → Option Lb, (∀ p ∈ yh (.bK i) 0 us, ρ p.1 = some p.2) → (∀ p ∈ rs, ρ (.sp p.1 p.2) = none) → bd (c.map ρ) w (.bK i) 0 os vs := by
   intro own cs os us rs vs hl hq; refine ⟨K5 cs hq, fun ρ hp hr => Ke h cs vs 0 hl hq (fun k l hk => ?_) hr⟩; have := hp _ (uI (.bK i) 0 us k l hk); simpa using this
 have single : ∀ (own : Bool) (cx : CV) (os : List OV) (us : List (Option Lb)) (rs : List (Nat × Nat)), iT c st w cx x → eI st own [cx] = some (os, us, rs) → (∀ l ∈ bI us, l.real = true) ∧ (∀ l ∈ bI us, l ∈ bI us) ∧
     ∃ tb : List (Lb × Lb), tb.map (·.1) = bI us ∧ (∀ p ∈ tb, p.2.jD = true) ∧ ∀ ρ : Lb → Option Lb, (∀ p ∈ tb, ρ p.1 = some p.2) → (∀ p ∈ rs, ρ (.sp p.1 p.2) = none) → qT (c.map ρ) w i (Ae c (.one cx)) (.val false os) x := by
   intro own cx os us rs hl hq; obtain ⟨g1, g2⟩ := vals own [cx] os us rs [x] ⟨rfl, fun k y z hy hz => by
     cases k with
     | zero => simp at hy hz; subst hy hz; exact hl
     | succ k => simp at hy⟩ hq
   exact ⟨g1, fun _ h => h, iU i (.val false os) [] us, lq _ _ _ _, lr _ _ _ _, fun ρ hp hr => g2 ρ (fun p jZ => hp p (by simpa [iU] using jZ)) hr⟩
 cases v with
 | lU _ => simp [dY] at he
 | agg cs =>
   obtain ⟨vs, rfl, hl⟩ := hx; have other : (match eI st m.mB cs with | some (os, u, r) => some (AV.val true os, bI u, bI u, r) | none => none) = some (av, u, q, r) → (∀ l ∈ u, l.real = true) ∧ (∀ l ∈ q, l ∈ u) ∧
       ∃ tb : List (Lb × Lb), tb.map (·.1) = u ∧ (∀ p ∈ tb, p.2.jD = true) ∧ ∀ ρ : Lb → Option Lb, (∀ p ∈ tb, ρ p.1 = some p.2) → (∀ p ∈ r, ρ (.sp p.1 p.2) = none) → qT (c.map ρ) w i (Ae c (.agg cs)) av (.agg vs) := by
     intro he
     cases hq : eI st m.mB cs with
     | none => simp [hq] at he
     | some p =>
       obtain ⟨os, us, rs⟩ := p; simp only [hq, Option.some.injEq, Prod.mk.injEq] at he; obtain ⟨rfl, rfl, rfl, rfl⟩ := he; obtain ⟨g1, g2⟩ := vals _ _ _ _ _ _ hl hq; exact ⟨g1, fun _ h => h, iU i (.val true os) [] us, lq _ _ _ _, lr _ _ _ _, fun ρ hp hr => ⟨vs, rfl, g2 ρ (fun p jZ => hp p (by simpa [iU] using jZ)) hr⟩⟩
   unfold dY at he
   cases m with
   | shr => exact other he
   | own => exact other he
   | pick _ => exact other he
   | io => exact other he
   | bD =>
     simp only at he
     cases hq : eI st true cs with
     | none => simp [hq] at he
     | some p =>
       obtain ⟨os, us, rs⟩ := p; simp only [hq] at he; obtain ⟨pK, wa⟩ := aH he; simp only [Option.some.injEq, Prod.mk.injEq] at wa; obtain ⟨rfl, rfl, rfl, rfl⟩ := wa; obtain ⟨g1, g2⟩ := vals _ _ _ _ _ _ hl hq; refine ⟨g1, by simp, iU i (.val true os) [] us, lq _ _ _ _, lr _ _ _ _, fun ρ hp hr => ⟨vs, rfl, g2 ρ (fun p jZ => hp p (by simpa [iU] using jZ)) hr, fun j o x ho hxj => ?_⟩⟩; obtain ⟨cx, u', r', k1, k2, k3⟩ := Kf cs hq j o ho; show Nk (c.map ρ) w i (fun k => It c cs[k]?) j o x
       cases o with
       | dL =>
         have := K4 k2; subst this; show It c cs[j]? = .nil; rw [k1]; rfl
       | own A =>
         obtain ⟨s, k, g, vw, B, rfl, hA, rfl, rfl, hB⟩ := Nn k2; have x4 : CV.ref s k g vw ∈ cs := List.mem_of_getElem? k1; have Dc := List.all_eq_true.1 pK _ x4; have No : vw = .full := by
           unfold MU at Dc; rw [Bool.and_eq_true] at Dc
           cases vw with
           | full => rfl
           | «from» _ => cases Dc.1
           | sub _ _ => cases Dc.1
         subst No; have hxr := hl.2 j _ _ k1 hxj; have hs := hxr.2.2 B hA; have ha := vQ h hA; have hρ : ρ (.sp s k) = some (.bK i j) := hp (.sp s k, .bK i j) (by
           have := uI (.bK i) 0 us j (.sp s k) k3; simpa [iU] using this)
         have aav : (fun k => It c cs[k]?) j = c.lc s k := by
           show It c cs[j]? = _; rw [k1]; rfl
         show OwnAt (c.map ρ) w (.bK i j) ((fun k => It c cs[k]?) j) { B with xs := View.full.app B.xs } x; rw [aav]; refine ⟨hxr.1, hs, hB, ?_⟩; show match c.lc s k with
           | .nil => B.xs = []
           | .at b off cap => _
         unfold bM at ha
         cases gz : c.lc s k with
         | nil => rw [gz] at ha; exact ha
         | «at» b off cap =>
           rw [gz] at ha; obtain ⟨h0, h2, h3, h4⟩ := ha; rw [hB] at h0; exact ⟨(Cz.jI h0).trans hρ, h2, h3, h4.map hρ⟩
       | _ => trivial
 | one cx =>
   cases cx with
   | ptr b g off =>
     unfold dY at he; simp only at he
     cases hb : dx st b g with
     | none => simp [hb] at he
     | some cs =>
       simp only [hb] at he
       cases hq : eI st true cs with
       | none => simp [hq] at he
       | some p =>
         obtain ⟨os, us, rs⟩ := p; simp only [hq] at he; obtain ⟨ho, wa⟩ := aH he; have ho1 := Nat.eq_of_beq_eq_true ho; simp only [Option.some.injEq, Prod.mk.injEq] at wa; obtain ⟨rfl, rfl, rfl, rfl⟩ := wa; subst ho1; obtain ⟨sl, k1, k2, k3⟩ := gw hb; obtain ⟨h1, vs, ty, h2, h3⟩ := h.boxes b sl cs k1 k3; obtain ⟨g1, g2⟩ := vals _ _ _ _ _ _ h3 hq; refine ⟨fun l hl => ?_, fun l hl => List.mem_cons_of_mem _ hl, iU i (.box os) [.box b] us, by rw [lq]; rfl, lr _ _ _ _, fun ρ hp hr => ⟨c.bx b, vs, ty, hx.2.2 cs hb, ?_, h2, g2 ρ (fun p jZ => hp p (List.mem_append_right _ jZ)) hr⟩⟩
         · rcases List.mem_cons.1 hl with rfl | hl
           · rfl
           · exact g1 l hl
         · exact (Cz.jI h1).trans (hp (.box b, .rE i) (by simp [iU]))
   | ref s j g vw =>
     unfold dY at he; have other : (match eI st m.mB [.ref s j g vw] with | some (os, u, r) => some (AV.val false os, bI u, bI u, r) | none => none) = some (av, u, q, r) → (∀ l ∈ u, l.real = true) ∧ (∀ l ∈ q, l ∈ u) ∧
         ∃ tb : List (Lb × Lb), tb.map (·.1) = u ∧ (∀ p ∈ tb, p.2.jD = true) ∧ ∀ ρ : Lb → Option Lb, (∀ p ∈ tb, ρ p.1 = some p.2) → (∀ p ∈ r, ρ (.sp p.1 p.2) = none) → qT (c.map ρ) w i (Ae c (.one (.ref s j g vw))) av x := by
       intro he
       cases hq : eI st m.mB [.ref s j g vw] with
       | none => simp [hq] at he
       | some p =>
         obtain ⟨os, us, rs⟩ := p; simp only [hq, Option.some.injEq, Prod.mk.injEq] at he; obtain ⟨rfl, rfl, rfl, rfl⟩ := he; exact single _ _ _ _ _ hx hq
     cases m with
     | shr => exact other he
     | own => exact other he
     | pick _ => exact other he
     | bD => exact other he
     | io =>
       cases vw with
       | full =>
         cases hA : aQ st s j g with
         | none => simp [hA] at he
         | some A =>
           simp only [hA] at he; obtain ⟨ho, wa⟩ := aH he; rw [Bool.and_eq_true] at ho; have ho := ho.1; simp only [Option.some.injEq, Prod.mk.injEq] at wa; obtain ⟨rfl, rfl, rfl, rfl⟩ := wa; refine ⟨by simp [Lb.real], by simp, [(.sp s j, .bK i 0)], rfl, by simp [Lb.jD], fun ρ hp _ => ?_⟩; have ha := vQ h hA; have hs := hx.2.2 A hA; have hρ : ρ (.sp s j) = some (.bK i 0) := hp (.sp s j, .bK i 0) (by simp); refine ⟨hx.1, hs, ho, ?_⟩; show match c.lc s j with
             | .nil => A.xs = []
             | .at b off cap => _
           unfold bM at ha
           cases gz : c.lc s j with
           | nil => rw [gz] at ha; exact ha
           | «at» b off cap =>
             rw [gz] at ha; obtain ⟨h0, h2, h3, h4⟩ := ha; rw [ho] at h0; exact ⟨(Cz.jI h0).trans hρ, h2, h3, h4.map hρ⟩
       | «from» _ => simp at he
       | sub _ _ => simp at he
   | _ =>
     unfold dY at he; simp only at he
     split at he
     · rename_i os us rs hq; simp only [Option.some.injEq, Prod.mk.injEq] at he; obtain ⟨rfl, rfl, rfl, rfl⟩ := he; exact single _ _ _ _ _ hx hq
     · cases he
theorem D1 {w0 : World} {mu : Mu} {c : Cz} {st : St} {a : Act} {w : World} (h : Rel w0 mu c st a w) : (ms : List (Pm × V)) → (i : Nat) → (xs : List Value) → ms.length = xs.length → (∀ (k : Nat) (m : Pm × V) (x : Value), ms[k]? = some m → xs[k]? = some x → eo c st w m.2 x) →
   {dC : List AV} → {u q : List Lb} → {r : List (Nat × Nat)} → gY st ms = some (dC, u, q, r) →
   (∀ l ∈ u, l.real = true) ∧ (∀ l ∈ q, l ∈ u) ∧ ∃ tb : List (Lb × Lb), tb.map (·.1) = u ∧ (∀ p ∈ tb, p.2.jD = true) ∧ dC.length = ms.length ∧
     ∀ (ρ : Lb → Option Lb) (lc : Nat → Nat → Loc), (∀ (k : Nat) (m : Pm × V), ms[k]? = some m → lc (i + k) = Ae c m.2) → (∀ p ∈ tb, ρ p.1 = some p.2) → (∀ p ∈ r, ρ (.sp p.1 p.2) = none) → wJ (c.map ρ) w lc i dC xs
 | [], i, xs, hl, hx, dC, u, q, r, he => by
   simp only [gY, Option.some.injEq, Prod.mk.injEq] at he; obtain ⟨rfl, rfl, rfl, rfl⟩ := he; simp at hl; exact ⟨by simp, by simp, [], rfl, by simp, rfl, fun ρ lc _ _ _ => List.length_eq_zero_iff.1 hl.symm⟩
 | (m, v) :: ms, i, xs, hl, hx, dC, u, q, r, he => by
   cases xs with
   | nil => simp at hl
   | cons x xs =>
     unfold gY at he
     cases h1 : dY st m v with
     | none => simp [h1] at he
     | some p1 =>
       obtain ⟨av, u1, q1, r1⟩ := p1
       cases h2 : gY st ms with
       | none => simp [h1, h2] at he
       | some p2 =>
         obtain ⟨PO, u2, q2, r2⟩ := p2; simp only [h1, h2, Option.some.injEq, Prod.mk.injEq] at he; obtain ⟨rfl, rfl, rfl, rfl⟩ := he; obtain ⟨a1, a2, ta, a4, a5, a3⟩ := K6 h (hx 0 (m, v) x rfl rfl) h1 i; obtain ⟨b1, b2, tb, b3, b4, b6, b5⟩ := D1 h ms (i + 1) xs (by simpa using hl) (fun k m x hm qu => hx (k + 1) m x (by simpa using hm) (by simpa using qu)) h2; refine ⟨fun l hl => ?_, fun l hl => ?_, ta ++ tb, by simp [a4, b3], fun p hp => ?_, by simp [b6], fun ρ lc gz hp hr => ?_⟩
         · rcases List.mem_append.1 hl with hl | hl
           · exact a1 l hl
           · exact b1 l hl
         · rcases List.mem_append.1 hl with hl | hl
           · exact List.mem_append_left _ (a2 l hl)
           · exact List.mem_append_right _ (b2 l hl)
         · rcases List.mem_append.1 hp with hp | hp
           · exact a5 p hp
           · exact b4 p hp
         · refine ⟨x, xs, rfl, ?_, b5 ρ lc (fun k m hm => ?_) (fun p jZ => hp p (List.mem_append_right _ jZ)) (fun p jZ => hr p (List.mem_append_right _ jZ))⟩
           · have := gz 0 (m, v) rfl; simp only [Nat.add_zero] at this; rw [this]; exact a3 ρ (fun p jZ => hp p (List.mem_append_left _ jZ)) (fun p jZ => hr p (List.mem_append_left _ jZ))
           · have := gz (k + 1) m (by simpa using hm)
             rwa [show i + (k + 1) = i + 1 + k by omega] at this
end Go.TM
namespace Go.TM
open Go Go.RowKit
structure jQ (X : Lb → Prop) (w0 : World) (mu : Mu) (c : Cz) (st : St) (a : Act) (w : World) : Prop where
 eL : ∀ t, eo c st w (bW st t) (a.eval (.tmp t))
 boxes : ∀ s sl cs, ¬ X (.box s) → nth st s = some sl → sl.box = some cs → uw c st w s cs
 aJ : ∀ s j sl A, ¬ X (.sp s j) → nth st s = some sl → nth sl.aJ j = some (some A) → bM c w s j A
 owned : ∀ b l, c.own b = some l → b < w.heap.size ∧ (l = .out ∨ w0.heap.size ≤ b ∨ mu.m b)
 free : ∀ b, b < w0.heap.size → c.own b = none → mu.m b ∨ mu.ok b
 kept : w.os = w0.os ∧ w.tape = w0.tape ∧ w.output = w0.output ∧ w0.heap.size ≤ w.heap.size
 old : ∀ k, k < w0.heap.size → ¬ mu.m k → w.heap[k]? = w0.heap[k]?
 plain : a.defers = []
 dR : ∀ p ∈ mu.an, PA c st p
theorem jQ.rel {w0 : World} {mu : Mu} {c : Cz} {st : St} {a : Act} {w : World} (h : jQ (fun _ => False) w0 mu c st a w) : Rel w0 mu c st a w :=
 ⟨h.eL, fun s sl cs => h.boxes s sl cs id, fun s j sl A => h.aJ s j sl A id, h.owned, h.free, h.kept, h.old, h.plain, h.dR⟩
structure Af (ρ : Lb → Lb) : Prop where
 other : ∀ l, (l = .out ∨ l.real = true) → ρ l = l
def Cz.dZ (c : Cz) (ρ : Lb → Lb) (bx : Nat → Nat) (lc : Nat → Nat → Loc) : Cz := { bx := bx, lc := lc, own := fun b => (c.own b).map ρ }
theorem Cz.kV {c : Cz} {ρ : Lb → Lb} {bx : Nat → Nat} {lc : Nat → Nat → Loc} {b : Nat} : (c.dZ ρ bx lc).ok b ↔ c.ok b := by
 unfold Cz.ok Cz.dZ; simp
theorem mN (c : Cz) (w : World) (ρ : Lb → Lb) (bx : Nat → Nat) (lc : Nat → Nat → Loc) : ir w w c.ok (c.dZ ρ bx lc).ok := ⟨Nat.le_refl _, fun _ _ _ => rfl, fun _ _ h => Cz.kV.2 h⟩
theorem jQ.dZ {X X' : Lb → Prop} {w0 : World} {mu : Mu} {c : Cz} {st aP : St} {a : Act} {w : World} (h : jQ X w0 mu c st a w) {ρ : Lb → Lb} {bx : Nat → Nat} {lc : Nat → Nat → Loc} (hρ : Af ρ)
   (ga : Fw c st w (c.dZ ρ bx lc) aP w) (WG : ∀ t, eo (c.dZ ρ bx lc) aP w (bW aP t) (a.eval (.tmp t)))
   (aaw : ∀ s sl cs, ¬ X' (.box s) → nth aP s = some sl → sl.box = some cs → uw (c.dZ ρ bx lc) aP w s cs)
   (zq : ∀ s j sl A, ¬ X' (.sp s j) → nth aP s = some sl → nth sl.aJ j = some (some A) → bM (c.dZ ρ bx lc) w s j A) : jQ X' w0 mu (c.dZ ρ bx lc) aP a w where
 eL := WG
 boxes := aaw
 aJ := zq
 owned b l hb := by
   unfold Cz.dZ at hb; simp only [Option.map_eq_some_iff] at hb; obtain ⟨k, hk, e⟩ := hb; obtain ⟨h1, h2⟩ := h.owned b k hk; refine ⟨h1, h2.imp (fun e2 => ?_) id⟩; subst e2; rw [← e]; exact hρ.other _ (.inl rfl)
 free b hb h1 := h.free b hb (by unfold Cz.dZ at h1; simpa using h1)
 kept := h.kept
 old := h.old
 plain := h.plain
 dR p hp := ga.dR (h.dR p hp)
theorem gn (st : St) (s j : Nat) (A : Option gr) (k : Nat) : ∃ f : Sl → Sl, (∀ x, (f x).v = x.v ∧ (f x).box = x.box ∧ (f x).bg = x.bg ∧ (f x).ag = x.ag ∧
     (∀ i, nth (f x).aJ i = if k = s ∧ i = j then (nth x.aJ i).map (fun _ => A) else nth x.aJ i) ∧ (f x).ep = if k = s then x.ep + 1 else x.ep) ∧ nth (bo st s j A) k = (nth st k).map f := by
 unfold bo
 by_cases e : k = s
 · subst e; refine ⟨fun s => { s with aJ := lN (fun _ => A) s.aJ j, ep := s.ep + 1 }, fun x => ⟨rfl, rfl, rfl, rfl, fun i => ?_, by simp⟩, iS _ _ _⟩; simp only [dz, true_and]
 · refine ⟨id, fun x => ⟨rfl, rfl, rfl, rfl, fun i => ?_, by simp [e]⟩, by rw [lj _ _ e]; simp⟩; simp [e]
theorem BO (st : St) (s j : Nat) (A : Option gr) (t : Nat) : lh st t ≤ lh (bo st s j A) t ∧ (lh (bo st s j A) t = lh st t → t ≠ s ∨ nth st t = none) := by
 obtain ⟨f, hf, hk⟩ := gn st s j A t; unfold lh; rw [hk]
 cases nth st t with
 | none => simp
 | some x =>
   simp only [Option.map_some]; rw [(hf x).2.2.2.2.2]
   by_cases e : t = s
   · rw [if_pos e]; exact ⟨by omega, fun h => by omega⟩
   · rw [if_neg e]; exact ⟨Nat.le_refl _, fun _ => .inl e⟩
theorem uJ (st : St) (s j : Nat) (A : Option gr) (t : Nat) : bW (bo st s j A) t = bW st t := by
 obtain ⟨f, hf, hk⟩ := gn st s j A t; unfold bW; rw [hk]
 cases nth st t with
 | none => rfl
 | some x => exact (hf x).1
theorem BP (st : St) (s j : Nat) (A : Option gr) (t : Nat) : cW (bo st s j A) t = cW st t ∧ fL (bo st s j A) t = fL st t := by
 obtain ⟨f, hf, hk⟩ := gn st s j A t; unfold cW fL; rw [hk]
 cases nth st t with
 | none => exact ⟨rfl, rfl⟩
 | some x => exact ⟨(hf x).2.2.2.1, (hf x).2.2.1⟩
theorem Gu (st : St) (s j : Nat) (A : Option gr) (b g : Nat) : dx (bo st s j A) b g = dx st b g := by
 obtain ⟨f, hf, hk⟩ := gn st s j A b; unfold dx; rw [hk]
 cases nth st b with
 | none => rfl
 | some x => simp [(hf x).2.1, (hf x).2.2.1]
theorem nc {st : St} {a j g : Nat} {sl : Sl} {A : gr} (h1 : nth st a = some sl) (h2 : sl.ag = g) (h3 : nth sl.aJ j = some (some A)) : aQ st a j g = some A := by
 unfold aQ; rw [h1]; simp [h2, h3]
theorem zr {c : Cz} {st : St} {w : World} {s j g : Nat} {A : Option gr} {A0 : gr} (h0 : aQ st s j g = some A0 ∨ A = none) (hA : ∀ B, A = some B → B.r.width = A0.r.width ∧ B.xs.length = A0.xs.length) (ρ : Lb → Lb) :
   Fw c st w (c.dZ ρ c.bx c.lc) (bo st s j A) w where
 stays := mN c w ρ _ _
 refs a' j' g' A' hg eb := by
   obtain ⟨sl, k1, k2, k3⟩ := bc eb; obtain ⟨f, hf, hk⟩ := gn st s j A a'; rw [hk] at k1
   cases hx : nth st a' with
   | none => rw [hx] at k1; simp at k1
   | some x =>
     rw [hx] at k1; simp at k1; subst k1; rw [(hf x).2.2.2.1] at k2; rw [(hf x).2.2.2.2.1 j'] at k3
     by_cases e : a' = s ∧ j' = j
     · rw [if_pos e] at k3; obtain ⟨rfl, rfl⟩ := e
       cases hq : nth x.aJ j' with
       | none => simp [hq] at k3
       | some A1 =>
         simp only [hq, Option.map_some, Option.some.injEq] at k3; rcases h0 with h0 | h0
         · obtain ⟨sl, k1', k2', k3'⟩ := bc h0; rw [hx] at k1'; cases k1'; obtain ⟨e1, e2⟩ := hA A' k3; refine ⟨A0, nc hx k2 k3', e1, e2, rfl, fun he => ?_⟩; rcases (BO st a' j' A a').2 he with h | h
           · exact absurd rfl h
           · rw [hx] at h; cases h
         · rw [h0] at k3; cases k3
     · rw [if_neg e] at k3; exact ⟨A', nc hx k2 k3, rfl, rfl, rfl, fun _ => ⟨rfl, fun _ _ _ _ => rfl⟩⟩
 AR b g' cs _ h := ⟨⟨cs, by rwa [Gu] at h⟩, rfl⟩
 gA a' := by rw [(BP st s j A a').1]; exact Nat.le_refl _
 gB a' := by rw [(BP st s j A a').2]; exact Nat.le_refl _
 gE a' := (BO st s j A a').1
theorem uw.dZ {c : Cz} {st aP : St} {w : World} {ρ : Lb → Lb} {bx : Nat → Nat} {lc : Nat → Nat → Loc} (hρ : Af ρ) (ga : Fw c st w (c.dZ ρ bx lc) aP w) {s : Nat} {cs : List CV} (h : uw c st w s cs) (hb : bx s = c.bx s) : uw (c.dZ ρ bx lc) aP w s cs := by
 refine h.go ga hb ?_ rfl; unfold Cz.dZ; simp only; rw [h.1]; simp [hρ.other (.box s) (.inr rfl)]
theorem bM.dZ {c : Cz} {w : World} {ρ : Lb → Lb} {bx : Nat → Nat} {lc : Nat → Nat → Loc} (hρ : Af ρ) {s j : Nat} {A : gr} (h : bM c w s j A) (hl : lc s j = c.lc s j) : bM (c.dZ ρ bx lc) w s j A := by
 refine h.go (mN c w ρ bx lc) hl (fun b h0 => ⟨rfl, ?_⟩); unfold Cz.dZ; simp only; rw [h0]; simp [hρ.other (.sp s j) (.inr rfl)]
theorem pL : Af id := ⟨fun _ _ => rfl⟩
theorem jQ.kill {X : Lb → Prop} {w0 : World} {mu : Mu} {c : Cz} {st : St} {a : Act} {w : World} (h : jQ X w0 mu c st a w) (s j : Nat) : jQ (fun l => X l ∧ l ≠ .sp s j) w0 mu (c.dZ id c.bx c.lc) (bo st s j none) a w ∧ Fw c st w (c.dZ id c.bx c.lc) (bo st s j none) w := by
 have ga : Fw c st w (c.dZ id c.bx c.lc) (bo st s j none) w := zr (g := 0) (A0 := { r := .nil, own := false, xs := [] }) (.inr rfl) (fun _ e => by cases e) id; refine ⟨h.dZ pL ga (fun t => by rw [uJ]; exact ga.lO (h.eL t)) (fun k sl cs hX hs hb => ?_) (fun k i sl A hX hs hA => ?_), ga⟩
 · obtain ⟨f, hf, hk⟩ := gn st s j none k; rw [hk] at hs
   cases hx : nth st k with
   | none => rw [hx] at hs; simp at hs
   | some x =>
     rw [hx] at hs; simp at hs; subst hs; rw [(hf x).2.1] at hb; exact (h.boxes k x cs (fun K7 => hX ⟨K7, by simp⟩) hx hb).dZ pL ga rfl
 · obtain ⟨f, hf, hk⟩ := gn st s j none k; rw [hk] at hs
   cases hx : nth st k with
   | none => rw [hx] at hs; simp at hs
   | some x =>
     rw [hx] at hs; simp at hs; subst hs; rw [(hf x).2.2.2.2.1 i] at hA
     by_cases e : k = s ∧ i = j
     · rw [if_pos e] at hA
       cases hq : nth x.aJ i <;> simp [hq] at hA
     · rw [if_neg e] at hA; exact (h.aJ k i x A (fun K7 => hX ⟨K7, by rintro e'; injection e' with e1 e2; exact e ⟨e1, e2⟩⟩) hx hA).dZ pL rfl
theorem jQ.mono {X X' : Lb → Prop} {w0 : World} {mu : Mu} {c : Cz} {st : St} {a : Act} {w : World} (h : jQ X w0 mu c st a w) (hX : ∀ l, X l → X' l) : jQ X' w0 mu c st a w :=
 ⟨h.eL, fun s sl cs hn => h.boxes s sl cs (fun h => hn (hX _ h)), fun s j sl A hn => h.aJ s j sl A (fun h => hn (hX _ h)), h.owned, h.free, h.kept, h.old, h.plain, h.dR⟩
def rk (i z s j : Nat) : Lb → Lb
 | .bK x y => if x = i ∧ y = z then .sp s j else .bK x y
 | l => l
def oP (i b : Nat) : Lb → Lb
 | .bK x y => if x = i then .sp b y else .bK x y
 | .rE x => if x = i then .box b else .rE x
 | l => l
theorem E3 (i z s j : Nat) : Af (rk i z s j) := ⟨fun l h => by cases l <;> simp [rk, Lb.real] at h ⊢⟩
theorem Dk (i b : Nat) : Af (oP i b) := ⟨fun l h => by cases l <;> simp [oP, Lb.real] at h ⊢⟩
theorem OwnAt.arr {c : Cz} {w : World} {l : Lb} {lc' : Loc} {A : gr} {v : Value} (h : OwnAt c w l lc' A v) {ρ : Lb → Lb} {bx : Nat → Nat} {lc : Nat → Nat → Loc} {s j : Nat} (hl : lc s j = lc') (hρ : ρ l = .sp s j) : bM (c.dZ ρ bx lc) w s j A := by
 obtain ⟨_, _, h3, h4⟩ := h; unfold bM; show match lc s j with | .nil => _ | .at b off cap => _
 rw [hl]
 cases lc' with
 | nil => exact h4
 | «at» b off cap =>
   obtain ⟨g1, g2, g3, g4⟩ := h4; rw [h3]; have hq : ∀ k, c.own k = some l → (c.dZ ρ bx lc).own k = some (.sp s j) := by
     intro k hk; show (c.own k).map ρ = _; rw [hk]; simp [hρ]
   exact ⟨hq b g1, g2, g3, g4.go (fun _ => mN c w ρ bx lc) rfl (fun _ k hk => ⟨rfl, hq k hk⟩)⟩
theorem jQ.io {X : Lb → Prop} {w0 : World} {mu : Mu} {c : Cz} {st : St} {a : Act} {w : World} (h : jQ X w0 mu c st a w) {s j g i z : Nat} {A B : gr} {v : Value} (hA : aQ st s j g = some A) (hw : B.r.width = A.r.width) (hn : B.xs.length = A.xs.length)
   (hB : OwnAt c w (.bK i z) (c.lc s j) B v) : jQ (fun l => X l ∧ l ≠ .sp s j) w0 mu (c.dZ (rk i z s j) c.bx c.lc) (bo st s j (some B)) a w ∧ Fw c st w (c.dZ (rk i z s j) c.bx c.lc) (bo st s j (some B)) w := by
 have ga : Fw c st w (c.dZ (rk i z s j) c.bx c.lc) (bo st s j (some B)) w := zr (.inl hA) (fun _ e => by cases e; exact ⟨hw, hn⟩) _; have ht := E3 i z s j; refine ⟨h.dZ ht ga (fun t => by rw [uJ]; exact ga.lO (h.eL t)) (fun k sl cs hX hs hb => ?_) (fun k q sl A' hX hs eb => ?_), ga⟩
 · obtain ⟨f, hf, hk⟩ := gn st s j (some B) k; rw [hk] at hs
   cases hx : nth st k with
   | none => rw [hx] at hs; simp at hs
   | some x =>
     rw [hx] at hs; simp at hs; subst hs; rw [(hf x).2.1] at hb; exact (h.boxes k x cs (fun K7 => hX ⟨K7, by simp⟩) hx hb).dZ ht ga rfl
 · obtain ⟨f, hf, hk⟩ := gn st s j (some B) k; rw [hk] at hs
   cases hx : nth st k with
   | none => rw [hx] at hs; simp at hs
   | some x =>
     rw [hx] at hs; simp at hs; subst hs; rw [(hf x).2.2.2.2.1 q] at eb
     by_cases e : k = s ∧ q = j
     · rw [if_pos e] at eb; obtain ⟨rfl, rfl⟩ := e
       cases hq : nth x.aJ q with
       | none => simp [hq] at eb
       | some A1 =>
         simp only [hq, Option.map_some, Option.some.injEq] at eb; subst eb; exact hB.arr rfl (by simp [rk])
     · rw [if_neg e] at eb; exact (h.aJ k q x A' (fun K7 => hX ⟨K7, by rintro e'; injection e' with e1 e2; exact e ⟨e1, e2⟩⟩) hx eb).dZ ht rfl
theorem bd.cells {c : Cz} {w : World} {f : Nat → Lb} : (os : List OV) → (j : Nat) → (vs : List Value) → bd c w f j os vs →
   ∃ lcs : Nat → Loc, (∀ k A, nth (aX os) k = some (some A) → ∃ v, OwnAt c w (f (j + k)) (lcs (j + k)) A v) ∧
     ∀ (c2 : Cz) (gm : St) (d g : Nat), (∀ b, c.ok b → c2.ok b) → (∀ k, k < os.length → c2.lc d (j + k) = lcs (j + k)) → (∀ k A, k < os.length → aQ gm d (j + k) g = some A → nth (aX os) k = some (some A)) → g ≤ cW gm d → eK c2 gm w (aV d g j os) vs
 | [], j, vs, h => by
   subst h; exact ⟨fun _ => .nil, fun k A hA => by simp [aX] at hA, fun _ _ _ _ _ _ _ _ => ⟨rfl, fun i x v hx => by simp [aV] at hx⟩⟩
 | o :: os, j, vs, h => by
   obtain ⟨v, l, rfl, hh, rI⟩ : ∃ v l, vs = v :: l ∧ bd c w f (j + 1) os l ∧ ∃ lc, (∀ A, o.arr = some A → OwnAt c w (f j) lc A v) ∧ ∀ (c2 : Cz) (gm : St) (d g : Nat), (∀ b, c.ok b → c2.ok b) → c2.lc d j = lc → (∀ A, aQ gm d j g = some A → o.arr = some A) → g ≤ cW gm d →
       ∃ x, aV d g j (o :: os) = x :: aV d g (j + 1) os ∧ iT c2 gm w x v := by
     cases o with
     | int k n => obtain ⟨l, h1, h2⟩ := h; exact ⟨_, l, h1, h2, .nil, (fun _ e => by cases e), fun c2 gm d g _ _ _ _ => ⟨_, rfl, rfl⟩⟩
     | bool b => obtain ⟨l, h1, h2⟩ := h; exact ⟨_, l, h1, h2, .nil, (fun _ e => by cases e), fun c2 gm d g _ _ _ _ => ⟨_, rfl, rfl⟩⟩
     | str b => obtain ⟨l, h1, h2⟩ := h; exact ⟨_, l, h1, h2, .nil, (fun _ e => by cases e), fun c2 gm d g _ _ _ _ => ⟨_, rfl, rfl⟩⟩
     | dL => obtain ⟨l, h1, h2⟩ := h; exact ⟨_, l, h1, h2, .nil, (fun _ e => by cases e), fun c2 gm d g _ _ _ _ => ⟨_, rfl, rfl⟩⟩
     | shr r xs =>
       obtain ⟨v, l, h1, h2, h3⟩ := h; exact ⟨v, l, h1, h3, .nil, (fun _ e => by cases e), fun c2 gm d g fF _ _ _ => ⟨.shr r xs, rfl, bL.stays ⟨Nat.le_refl _, fun _ _ _ => rfl, fun b _ hb => fF b hb⟩ _ _ _ h2⟩⟩
     | kC r xs =>
       obtain ⟨v, l, h1, ⟨b, o, e1, e2, e3, e4⟩, h3⟩ := h; exact ⟨v, l, h1, h3, .nil, (fun _ e => by cases e), fun c2 gm d g fF _ _ _ => ⟨.re r xs 0, rfl, b, o, e1, e2, fF b e3, fun x hx => cq.stays ⟨Nat.le_refl _, fun _ _ _ => rfl, fun b _ hb => fF b hb⟩ _ _ _ _ rfl (e4 x hx)⟩⟩
     | fn g rs xs =>
       obtain ⟨v, l, h1, h2, h3⟩ := h; exact ⟨v, l, h1, h3, .nil, (fun _ e => by cases e), fun c2 gm d g' fF _ _ _ => ⟨.fn g rs xs, rfl, h2.stays ⟨Nat.le_refl _, fun _ _ _ => rfl, fun b _ hb => fF b hb⟩⟩⟩
     | own A =>
       obtain ⟨v, l, h1, ⟨lc, h2⟩, h3⟩ := h; refine ⟨v, l, h1, h3, lc, (fun A' e => by cases e; exact h2), fun c2 gm d g _ gz zq hg => ⟨.ref d j g .full, rfl, h2.1, hg, fun A' eb => ?_⟩⟩; have e := zq A' eb
       cases e
       rw [gz]; exact h2.2.1
   obtain ⟨lc, q1, q2⟩ := rI; obtain ⟨lcs, g1, g2⟩ := bd.cells os (j + 1) l hh; refine ⟨fun k => if k = j then lc else lcs k, fun k A' eb => ?_, fun c2 gm d g fF gz zq hg => ?_⟩
   · cases k with
     | zero =>
       simp only [aX, nth, Option.some.injEq] at eb; exact ⟨v, by simpa using q1 A' eb⟩
     | succ k =>
       have := g1 k A' eb; rw [show j + 1 + k = j + (k + 1) by omega] at this; show ∃ v, OwnAt c w (f (j + (k + 1))) (if j + (k + 1) = j then lc else lcs (j + (k + 1))) A' v; rw [if_neg (by omega)]; exact this
   · have eP := g2 c2 gm d g fF (fun k hk => by
       have : c2.lc d (j + (k + 1)) = if j + (k + 1) = j then lc else lcs (j + (k + 1)) := gz (k + 1) (by simp; exact hk)
       rw [if_neg (by omega)] at this; rw [show j + 1 + k = j + (k + 1) by omega]; exact this) (fun k A' hk eb => by
         have := zq (k + 1) A' (by simp; exact hk) (by rw [show j + (k + 1) = j + 1 + k by omega]; exact eb); exact this) hg
     have h0 : c2.lc d j = lc := by
       have := gz 0 (by simp); simpa using this
     obtain ⟨x, e1, e2⟩ := q2 c2 gm d g fF h0 (fun A hA => by
       have := zq 0 A (by simp) hA; simpa [aX, nth] using this) hg
     rw [e1]; refine ⟨by simp [eP.1], fun k y z hy hz => ?_⟩
     cases k with
     | zero =>
       simp only [List.getElem?_cons_zero, Option.some.injEq] at hy hz; subst hy hz; exact e2
     | succ k => exact eP.2 k y z (by simpa using hy) (by simpa using hz)
theorem jQ.boxed {X : Lb → Prop} {w0 : World} {mu : Mu} {c : Cz} {st : St} {a : Act} {w : World} (h : jQ X w0 mu c st a w) {b g i : Nat} {s0 : Sl} {MD : List CV} {os : List OV} {v : Value} (gW : nth st b = some s0) (AT : dx st b g = some MD) (hv : v = .pointer (some ⟨c.bx b, 0, none⟩))
   (hB : DZ c w i os v) : ∃ c', jQ (fun l => X l ∧ l ≠ .box b) w0 mu c' (lN (fun s => { s with box := some (aV b (s0.ag + 1) 0 os), aJ := aX os, ag := s0.ag + 1 }) st b) a w ∧
     Fw c st w c' (lN (fun s => { s with box := some (aV b (s0.ag + 1) 0 os), aJ := aX os, ag := s0.ag + 1 }) st b) w ∧ Pass c c' (fun l => (∀ y, l ≠ .bK i y) ∧ l ≠ .rE i) := by
 obtain ⟨mD, vs, ty, h1, h2, h3, h4⟩ := hB; obtain ⟨lcs, g1, g2⟩ := bd.cells os 0 _ h4; rw [hv] at h1; have e : c.bx b = mD := by injection h1 with h1; injection h1 with h1; injection h1
 obtain ⟨_, WH, PD, PQ⟩ := gw AT; rw [gW] at WH; cases WH
 let c' := c.dZ (oP i b) c.bx (fun s j => if s = b then lcs j else c.lc s j)
 let aP := lN (fun s => { s with box := some (aV b (s0.ag + 1) 0 os), aJ := aX os, ag := s0.ag + 1 }) st b
 have hn : ∀ s, nth aP s = if s = b then some { s0 with box := some (aV b (s0.ag + 1) 0 os), aJ := aX os, ag := s0.ag + 1 } else nth st s := by
   intro s; show nth (lN _ st b) s = _; rw [dz]
   by_cases e : s = b
   · subst e; simp [gW]
   · simp [e]
 have zt : cW aP b = s0.ag + 1 := by unfold cW; rw [hn]; simp
 have Gv : cW st b = s0.ag := by unfold cW; rw [gW]
 have ht := Dk i b; have ga : Fw c st w c' aP w := {
   stays := mN c w _ _ _
   refs := fun a' j' g' A' hg eb => by
     obtain ⟨sl, k1, k2, k3⟩ := bc eb; rw [hn] at k1
     by_cases e : a' = b
     · rw [if_pos e] at k1
       cases k1
       subst e; simp only at k2; omega
     · rw [if_neg e] at k1; exact ⟨A', nc k1 k2 k3, rfl, rfl, by show (if a' = b then _ else _) = _; rw [if_neg e], fun _ => ⟨rfl, fun _ _ _ _ => rfl⟩⟩
   AR := fun b' g' lV hg Ig => by
     obtain ⟨sl, k1, k2, k3⟩ := gw Ig; rw [hn] at k1
     by_cases e : b' = b
     · rw [if_pos e] at k1
       cases k1
       subst e; exact ⟨⟨MD, by unfold dx; rw [gW]; simp at k2; simp [k2, PQ]⟩, rfl⟩
     · rw [if_neg e] at k1; exact ⟨⟨lV, by unfold dx; rw [k1]; simp [k2, k3]⟩, rfl⟩
   gA := fun a' => by
     by_cases e : a' = b
     · subst e; rw [zt, Gv]; omega
     · unfold cW; rw [hn, if_neg e]; exact Nat.le_refl _
   gB := fun a' => by
     by_cases e : a' = b
     · subst e; unfold fL; rw [hn, if_pos rfl, gW]; exact Nat.le_refl _
     · unfold fL; rw [hn, if_neg e]; exact Nat.le_refl _
   gE := fun a' => by
     by_cases e : a' = b
     · subst e; unfold lh; rw [hn, if_pos rfl, gW]; exact Nat.le_refl _
     · unfold lh; rw [hn, if_neg e]; exact Nat.le_refl _ }
 have Gw : ∀ k A, aQ aP b k (s0.ag + 1) = some A → nth (aX os) k = some (some A) := by
   intro k A hA; obtain ⟨sl, k1, k2, k3⟩ := bc hA; rw [hn, if_pos rfl] at k1
   cases k1
   exact k3
 refine ⟨c', h.dZ ht ga (fun t => ?_) (fun s sl cs hX hs hb => ?_) (fun s j sl A hX hs hA => ?_), ga, ⟨fun k l hl hk => ?_, fun k hk => Cz.kV.2 hk⟩⟩
 · have : bW aP t = bW st t := by
     unfold bW; rw [hn]
     by_cases e : t = b
     · subst e; rw [if_pos rfl, gW]
     · rw [if_neg e]
   rw [this]; exact ga.lO (h.eL t)
 · rw [hn] at hs
   by_cases e' : s = b
   · subst e'; rw [if_pos rfl] at hs
     cases hs
     simp only [Option.some.injEq] at hb; subst hb; refine ⟨?_, vs, ty, by show w.heap[c.bx s]? = _; rw [e]; exact h3, ?_⟩
     · show (c.own (c.bx s)).map (oP i s) = some (.box s); rw [e, h2]; simp [oP]
     · exact g2 c' aP s (s0.ag + 1) (fun b hb => Cz.kV.2 hb) (fun k _ => by show (if s = s then _ else _) = _; rw [if_pos rfl]) (fun k A _ hA => Gw k A (by simpa using hA)) (by rw [zt]; exact Nat.le_refl _)
   · rw [if_neg e'] at hs; exact (h.boxes s sl cs (fun K7 => hX ⟨K7, by rintro e2; injection e2 with e2; exact e' e2⟩) hs hb).dZ ht ga rfl
 · rw [hn] at hs
   by_cases e' : s = b
   · subst e'; rw [if_pos rfl] at hs
     cases hs
     obtain ⟨v', my⟩ := g1 j A hA; exact my.arr (by simp) (by simp [oP])
   · rw [if_neg e'] at hs; exact (h.aJ s j sl A (fun K7 => hX ⟨K7, by simp⟩) hs hA).dZ ht (by simp [e'])
 · show (c.own k).map (oP i b) = _; rw [hk]; simp only [Option.map_some, Option.some.injEq]
   cases l with
   | bK x y => simp only [oP]; rw [if_neg]; rintro rfl; exact hl.1 y rfl
   | rE x => simp only [oP]; rw [if_neg]; rintro rfl; exact hl.2 rfl
   | _ => rfl
end Go.TM
namespace Go.TM
open Go Go.RowKit
def Lb.Gx : Lb → Option Lb
 | .bK i j => some (.bK i j)
 | .rE i => some (.rE i)
 | .gM j => some (.gM j)
 | _ => none
noncomputable def Cz.merge (c c1 : Cz) (n : Nat) (m : Nat → Prop) : Cz :=
 { bx := c.bx, lc := c.lc, own := fun b => have := Classical.propDecidable (b < n ∧ ¬ m b); if b < n ∧ ¬ m b then c.own b else (c1.own b).bind Lb.Gx }
theorem Cz.rL {c c1 : Cz} {n : Nat} {m : Nat → Prop} {b : Nat} (h : b < n ∧ ¬ m b) : (c.merge c1 n m).own b = c.own b := by
 unfold Cz.merge; simp only; rw [if_pos h]
theorem Cz.zu {c c1 : Cz} {n : Nat} {m : Nat → Prop} {b : Nat} (h : ¬ (b < n ∧ ¬ m b)) : (c.merge c1 n m).own b = (c1.own b).bind Lb.Gx := by
 unfold Cz.merge; simp only; rw [if_neg h]
theorem pM (st : St) (s : Nat) : nth (xN st) s = (nth st s).map fun x => { x with ep := x.ep + 1 } := by
 unfold xN; rw [fK, fK, List.getElem?_map]
theorem K8 (st : St) (t : Nat) : bW (xN st) t = bW st t := by
 unfold bW; rw [pM]
 cases nth st t <;> rfl
theorem K9 (st : St) (a j g : Nat) : aQ (xN st) a j g = aQ st a j g := by
 unfold aQ; rw [pM]
 cases nth st a <;> rfl
theorem La (st : St) (b g : Nat) : dx (xN st) b g = dx st b g := by
 unfold dx; rw [pM]
 cases nth st b <;> rfl
theorem Gy (st : St) (a : Nat) : cW (xN st) a = cW st a ∧ fL (xN st) a = fL st a := by
 unfold cW fL; rw [pM]
 cases nth st a <;> exact ⟨rfl, rfl⟩
theorem Gz (st : St) (a : Nat) : lh st a ≤ lh (xN st) a ∧ (lh (xN st) a = lh st a → nth st a = none) := by
 unfold lh; rw [pM]
 cases nth st a <;> simp
theorem Rel.WI {w0 : World} {mu : Mu} {c : Cz} {st : St} {a : Act} {w : World} (h : Rel w0 mu c st a w) {μ : Mu} {c1 : Cz} {w' : World} (hb : zo w μ c1 w') {X : Lb → Prop} (hm : ∀ b, μ.m b → ∃ l, c.own b = some l ∧ X l) (hX : ∀ l, X l → l ≠ .out) :
   jQ X w0 mu (c.merge c1 w.heap.size μ.m) (xN st) a w' ∧ Fw c st w (c.merge c1 w.heap.size μ.m) (xN st) w' ∧ (∀ b l, c.own b = some l → ¬ X l → w'.heap[b]? = w.heap[b]? ∧ (c.merge c1 w.heap.size μ.m).own b = c.own b) ∧ (∀ b l, l.Gx = some l → c1.own b = some l → (c.merge c1 w.heap.size μ.m).own b = some l) ∧ ((∀ b, μ.ok b → c.own b = none) → ∀ b, c1.ok b → (c.merge c1 w.heap.size μ.m).ok b) := by
 have ki : w.heap.size ≤ w'.heap.size := hb.kept.2.2.2; have po : ir w w' c.ok (c.merge c1 w.heap.size μ.m).ok := {
   size := ki
   block := fun b bX fF => hb.old b bX (fun Aa => by
     obtain ⟨l, hl, _⟩ := hm b Aa; unfold Cz.ok at fF; rw [fF] at hl; cases hl)
   ok := fun b bX fF => by
     unfold Cz.ok; rw [Cz.rL ⟨bX, fun Aa => by
       obtain ⟨l, hl, _⟩ := hm b Aa; unfold Cz.ok at fF; rw [fF] at hl; cases hl⟩]
     exact fF }
 have ga : Fw c st w (c.merge c1 w.heap.size μ.m) (xN st) w' := {
   stays := po
   refs := fun a' j g A' _ hA => by
     rw [K9] at hA; refine ⟨A', hA, rfl, rfl, rfl, fun he => ?_⟩; have := (Gz st a').2 he; unfold aQ at hA; rw [this] at hA
     cases hA
   AR := fun b g cs _ hc => ⟨⟨cs, by rwa [La] at hc⟩, rfl⟩
   gA := fun a' => by rw [(Gy st a').1]; exact Nat.le_refl _
   gB := fun a' => by rw [(Gy st a').2]; exact Nat.le_refl _
   gE := fun a' => (Gz st a').1 }
 have keep : ∀ b l, c.own b = some l → ¬ X l → w'.heap[b]? = w.heap[b]? ∧ (c.merge c1 w.heap.size μ.m).own b = c.own b := by
   intro b l hl hn; have bX := (h.owned b l hl).1; have Aa : ¬ μ.m b := fun Aa => by
     obtain ⟨l', wk, hx⟩ := hm b Aa; rw [hl] at wk; cases wk; exact hn hx
   exact ⟨hb.old b bX Aa, Cz.rL ⟨bX, Aa⟩⟩
 refine ⟨⟨fun t => by rw [K8]; exact ga.lO (h.eL t), fun s sl cs hn hs AT => ?_, fun s j sl A hn hs hA => ?_, fun b l hl => ?_, fun b bX hl => ?_, ?_, fun k hk ZG => ?_, h.plain, fun p hp => ga.dR (h.dR p hp)⟩, ga, keep, fun b l hk hl => ?_, fun fF b h1 => ?_⟩
 · rw [pM] at hs; obtain ⟨Q3, gW, rfl⟩ := Option.map_eq_some_iff.1 hs; have h0 := h.boxes s Q3 cs gW AT; obtain ⟨k1, k2⟩ := keep _ _ h0.1 hn; exact h0.go ga rfl k2 k1
 · rw [pM] at hs; obtain ⟨Q3, gW, rfl⟩ := Option.map_eq_some_iff.1 hs; have h0 := h.aJ s j Q3 A gW hA; exact h0.go po rfl (fun b g1 => keep b _ g1 hn)
 · by_cases e : b < w.heap.size ∧ ¬ μ.m b
   · rw [Cz.rL e] at hl; have := h.owned b l hl; exact ⟨Nat.lt_of_lt_of_le this.1 ki, this.2⟩
   · rw [Cz.zu e] at hl; obtain ⟨k, hk, e2⟩ := Option.bind_eq_some_iff.1 hl; obtain ⟨g1, g2⟩ := hb.owned b k hk; refine ⟨g1, .inr ?_⟩; have AU : k ≠ .out := by rintro rfl; simp [Lb.Gx] at e2
     by_cases bX : b < w.heap.size
     · have Aa : μ.m b := Classical.not_not.1 (fun h => e ⟨bX, h⟩); obtain ⟨l', wk, hx⟩ := hm b Aa; rcases (h.owned b l' wk).2 with q | q
       · exact absurd q (hX l' hx)
       · exact q
     · have := h.kept.2.2.2; exact .inl (by omega)
 · by_cases e : b < w.heap.size ∧ ¬ μ.m b
   · rw [Cz.rL e] at hl; exact h.free b bX hl
   · have Si : b < w.heap.size := Nat.lt_of_lt_of_le bX h.kept.2.2.2; have Aa : μ.m b := Classical.not_not.1 (fun h => e ⟨Si, h⟩); obtain ⟨l', wk, hx⟩ := hm b Aa; rcases (h.owned b l' wk).2 with q | q | q
     · exact absurd q (hX l' hx)
     · omega
     · exact .inl q
 · exact ⟨hb.kept.1.trans h.kept.1, hb.kept.2.1.trans h.kept.2.1, hb.kept.2.2.1.trans h.kept.2.2.1, Nat.le_trans h.kept.2.2.2 ki⟩
 · have Si : k < w.heap.size := Nat.lt_of_lt_of_le hk h.kept.2.2.2; rw [hb.old k Si (fun Aa => ?_)]
   · exact h.old k hk ZG
   · obtain ⟨l', wk, hx⟩ := hm k Aa; rcases (h.owned k l' wk).2 with q | q | q
     · exact hX l' hx q
     · omega
     · exact ZG q
 · rw [Cz.zu (fun e => ?_), hl]
   · exact hk
   · rcases (hb.owned b l hl).2 with q | q | q
     · subst q; simp [Lb.Gx] at hk
     · omega
     · exact e.2 q
 · unfold Cz.ok at h1 ⊢
   by_cases e : b < w.heap.size ∧ ¬ μ.m b
   · rw [Cz.rL e]; rcases hb.free b e.1 h1 with q | q
     · exact absurd q e.2
     · exact fF b q
   · rw [Cz.zu e, h1]; rfl
theorem Cz.GA (c : Cz) (bx : Nat → Nat) (lc : Nat → Nat → Loc) : (c.dZ id bx lc).own = c.own := by
 funext b
 unfold Cz.dZ; simp
theorem wK {w0 : World} {mu : Mu} {a : Act} {w : World} : (ks : List Lb) → {X : Lb → Prop} → {c : Cz} → {st : St} → jQ X w0 mu c st a w →
   ∃ c', jQ (fun l => X l ∧ ∀ s j, Lb.sp s j ∈ ks → l ≠ .sp s j) w0 mu c' (m9 st ks) a w ∧ Fw c st w c' (m9 st ks) w ∧ c'.own = c.own
 | [], X, c, st, h => ⟨c, h.mono (fun l hl => ⟨hl, by simp⟩), Fw.refl c st w, rfl⟩
 | k :: ks, X, c, st, h => by
   have skip : m9 st (k :: ks) = m9 st ks → (∀ s j, k ≠ .sp s j) → ∃ c', jQ (fun l => X l ∧ ∀ s j, Lb.sp s j ∈ k :: ks → l ≠ .sp s j) w0 mu c' (m9 st (k :: ks)) a w ∧ Fw c st w c' (m9 st (k :: ks)) w ∧ c'.own = c.own := by
     intro e hk; obtain ⟨c', h1, h2, h3⟩ := wK ks h; rw [e]; refine ⟨c', h1.mono (fun l hl => ⟨hl.1, fun s j hm => ?_⟩), h2, h3⟩; rcases List.mem_cons.1 hm with e2 | hm
     · exact absurd e2.symm (hk s j)
     · exact hl.2 s j hm
   cases k with
   | sp s j =>
     obtain ⟨h1, h2⟩ := h.kill s j; obtain ⟨c', h3, h4, h5⟩ := wK ks h1; refine ⟨c', h3.mono (fun l hl => ⟨hl.1.1, fun s' j' hm => ?_⟩), h2.trans h4, h5.trans (Cz.GA _ _ _)⟩; rcases List.mem_cons.1 hm with e2 | hm
     · cases e2; exact hl.1.2
     · exact hl.2 s' j' hm
   | _ => exact skip rfl (by simp)
def zv (m : Pm) : V → List Lb
 | .one (.ptr b _ _) => [.box b]
 | .one (.ref a j _ _) => match m with
   | .io => [.sp a j]
   | _ => []
 | .agg cs => match m with
   | .bD => cs.filterMap fun x => match x with | .ref a j _ _ => some (.sp a j) | _ => none
   | _ => []
 | _ => []
def Np (st : St) (m : Pm × V) (av : AV) : Prop := ∃ u q r, dY st m.1 m.2 = some (av, u, q, r)
theorem GB {st : St} {own : Bool} : (cs : List CV) → {os : List OV} → {u : List (Option Lb)} → {r : List (Nat × Nat)} → eI st own cs = some (os, u, r) → ∀ (k : Nat) {a j g : Nat} , cs[k]? = some (.ref a j g .full) → os[k]? = (aQ st a j g).map fun A => bif own && A.own then .own A else .shr A.r A.xs
 | [], _, _, _, h => by intro k a j g hk; simp at hk
 | x :: cs, os, u, r, h => by
   unfold eI at h
   cases hc : fq st own x with
   | none => simp [hc] at h
   | some p =>
     obtain ⟨o, u1, r1⟩ := p
     cases hq : eI st own cs with
     | none => simp [hc, hq] at h
     | some q =>
       obtain ⟨yc, us, rs⟩ := q; simp only [hc, hq, Option.some.injEq, Prod.mk.injEq] at h; obtain ⟨rfl, rfl, _⟩ := h; intro k a j g hk
       cases k with
       | succ k => simpa using GB cs hq k (by simpa using hk)
       | zero =>
         simp only [List.getElem?_cons_zero, Option.some.injEq] at hk; subst hk; unfold fq at hc; simp only at hc
         cases hA : aQ st a j g with
         | none => simp [hA] at hc
         | some A =>
           simp only [hA] at hc
           cases hm : A.md.DN with
           | true => simp [hm] at hc
           | false =>
           simp only [hm, cond_false, View.isFull, Bool.or_true, Bool.and_true] at hc
           cases hb : (own && A.own) <;> simp only [hb, cond_true, cond_false, Option.some.injEq, Prod.mk.injEq] at hc <;> obtain ⟨rfl, _⟩ := hc <;> simp [hb, View.app]
theorem BQ {w0 wb : World} {mu : Mu} {a : Act} {w : World} {c0 : Cz} {uK : St} {i : Nat} {As : List (Option gr)} : (cs : List CV) → (j0 : Nat) → (us : List Value) → {X : Lb → Prop} → {c : Cz} → {st aP : St} → jQ X w0 mu c st a w → Fw c0 uK wb c st w →
   (∀ (k : Nat) (x : CV) (v : Value), cs[k]? = some x → us[k]? = some v → iT c0 uK wb x v) →
   (∀ (k s j g : Nat) (vw : View), cs[k]? = some (.ref s j g vw) → ∃ A B u, aQ uK s j g = some A ∧ nth As (j0 + k) = some (some B) ∧ us[k]? = some u ∧ B.r.width = A.r.width ∧ B.xs.length = A.xs.length ∧ OwnAt c w (.bK i (j0 + k)) (c0.lc s j) B u) →
   Bn st j0 cs As = some aP →
   ∃ c', jQ (fun l => X l ∧ ∀ s j g vw, CV.ref s j g vw ∈ cs → l ≠ .sp s j) w0 mu c' aP a w ∧ Fw c0 uK wb c' aP w ∧ Pass c c' (fun l => ∀ y, l ≠ .bK i y)
 | [], j0, us, X, c, st, aP, h, ga, _, _, hv => by
   simp only [Bn, Option.some.injEq] at hv; subst hv; exact ⟨c, h.mono (fun l hl => ⟨hl, by simp⟩), ga, ⟨fun _ _ _ h => h, fun _ h => h⟩⟩
 | x :: cs, j0, us, X, c, st, aP, h, ga, hr, hB, hv => by
   have skip : (∀ s j g vw, x ≠ .ref s j g vw) → Bn st (j0 + 1) cs As = some aP → ∃ c', jQ (fun l => X l ∧ ∀ s j g vw, CV.ref s j g vw ∈ x :: cs → l ≠ .sp s j) w0 mu c' aP a w ∧ Fw c0 uK wb c' aP w ∧ Pass c c' (fun l => ∀ y, l ≠ .bK i y) := by
     intro hx hv; obtain ⟨c', g1, g2, g3⟩ := BQ (i := i) cs (j0 + 1) us.tail h ga (fun k y v hk hv => hr (k + 1) y v (by simpa using hk) (by simpa using hv)) (fun k s j g vw hk => by
       obtain ⟨A, B, u, q1, q2, q3, q4, q5, q6⟩ := hB (k + 1) s j g vw (by simpa using hk); refine ⟨A, B, u, q1, by rw [show j0 + 1 + k = j0 + (k + 1) by omega]; exact q2, by simpa using q3, q4, q5, by rw [show j0 + 1 + k = j0 + (k + 1) by omega]; exact q6⟩) hv
     refine ⟨c', g1.mono (fun l hl => ⟨hl.1, fun s j g vw hm => ?_⟩), g2, g3⟩; rcases List.mem_cons.1 hm with e | hm
     · exact absurd e.symm (hx s j g vw)
     · exact hl.2 s j g vw hm
   cases x with
   | ref s j g vw =>
     unfold Bn at hv
     split at hv
     · rename_i B A1 RX WJ; obtain ⟨A, B', u, q1, q2, q3, q4, q5, q6⟩ := hB 0 s j g vw rfl; rw [Nat.add_zero] at q2 q6; rw [RX] at q2; simp only [Option.some.injEq] at q2; subst q2; have WK := hr 0 _ u rfl q3; obtain ⟨A0', p1, p2, p3, p4, _⟩ := ga.refs s j g A1 WK.2.1 WJ; rw [q1] at p1; cases p1; have hO' : OwnAt c w (.bK i j0) (c.lc s j) B u := by rw [p4]; exact q6
       obtain ⟨g1, g2⟩ := h.io WJ (q4.trans p2.symm) (q5.trans p3.symm) hO'; have D2 : ∀ b l, l ≠ .bK i j0 → c.own b = some l → (c.dZ (rk i j0 s j) c.bx c.lc).own b = some l := by
         intro b l hl hb; show (c.own b).map _ = _; rw [hb]; simp only [Option.map_some, Option.some.injEq]
         cases l with
         | bK x y => simp only [rk]; rw [if_neg]; rintro ⟨rfl, rfl⟩; exact hl rfl
         | _ => rfl
       obtain ⟨c', k1, k2, k3⟩ := BQ (i := i) cs (j0 + 1) us.tail g1 (ga.trans g2) (fun k y v hk hv => hr (k + 1) y v (by simpa using hk) (by simpa using hv)) (fun k s' j' g' vw' hk => by
         obtain ⟨A, B, u, q1, q2, q3, q4, q5, q6⟩ := hB (k + 1) s' j' g' vw' (by simpa using hk); refine ⟨A, B, u, q1, by rw [show j0 + 1 + k = j0 + (k + 1) by omega]; exact q2, by simpa using q3, q4, q5, ?_⟩; rw [show j0 + 1 + k = j0 + (k + 1) by omega]; exact q6.pass (fun b hb => D2 b _ (by simp) hb) (.inl fun b hb => Cz.kV.2 hb)) hv
       refine ⟨c', k1.mono (fun l hl => ⟨hl.1.1, fun s' j' g' vw' hm => ?_⟩), k2, ⟨fun b l hl hb => k3.bK b l hl (D2 b l (hl j0) hb), fun b hb => k3.ok b (Cz.kV.2 hb)⟩⟩; rcases List.mem_cons.1 hm with e | hm
       · cases e; exact hl.1.2
       · exact hl.2 s' j' g' vw' hm
     · cases hv
   | _ => exact skip (by simp) hv
theorem BR {w0 wb : World} {mu : Mu} {a : Act} {w : World} {c0 : Cz} {uK : St} {lc : Nat → Nat → Loc} : (ms : List (Pm × V)) → (i : Nat) → (dC : List AV) → (xs : List Value) → (es : List XV) → {X : Lb → Prop} → {c : Cz} → {st aP : St} → jQ X w0 mu c st a w → Fw c0 uK wb c st w →
   (∀ (k : Nat) (m : Pm × V) (x : Value), ms[k]? = some m → xs[k]? = some x → eo c0 uK wb m.2 x) → (∀ (k : Nat) (m : Pm × V) (av : AV), ms[k]? = some m → dC[k]? = some av → Np uK m av) → ms.length = dC.length → ms.length = xs.length → (∀ (k : Nat) (m : Pm × V), ms[k]? = some m → lc (i + k) = Ae c0 m.2) →
   gO c w lc i dC xs es → ss st ms es = some aP →
   ∃ c', jQ (fun l => X l ∧ ∀ m ∈ ms, l ∉ zv m.1 m.2) w0 mu c' aP a w ∧ Fw c0 uK wb c' aP w ∧ Pass c c' (fun l => (∃ j, l = .gM j) ∨ l.real = true)
 | [], i, dC, xs, es, X, c, st, aP, h, ga, _, _, _, _, _, hx, hv => by
   cases es with
   | nil =>
     simp only [ss, Option.some.injEq] at hv; subst hv; exact ⟨c, h.mono (fun l hl => ⟨hl, by simp⟩), ga, ⟨fun _ _ _ h => h, fun _ h => h⟩⟩
   | cons _ _ => simp [ss] at hv
 | (m, v) :: ms, i, [], xs, es, X, c, st, aP, h, ga, hr, he, hn, ZH, gz, hx, hv => by simp at hn
 | (m, v) :: ms, i, av :: dC, [], es, X, c, st, aP, h, ga, hr, he, hn, ZH, gz, hx, hv => by simp at ZH
 | (m, v) :: ms, i, av :: dC, x :: xs, es, X, c, st, aP, h, ga, hr, he, hn, ZH, gz, hx, hv => by
   have WK := hr 0 (m, v) x rfl rfl; obtain ⟨u, q, r, qv⟩ := he 0 (m, v) av rfl rfl; have Sj := gz 0 (m, v) rfl; simp only [Nat.add_zero] at Sj; have Z9 : ∀ (k : Nat) (m : Pm × V) (x : Value), ms[k]? = some m → xs[k]? = some x → eo c0 uK wb m.2 x := fun k m' x' h1 h2 => hr (k + 1) m' x' (by simpa using h1) (by simpa using h2)
   have RS : ∀ (k : Nat) (m : Pm × V) (av : AV), ms[k]? = some m → dC[k]? = some av → Np uK m av := fun k m' x' h1 h2 => he (k + 1) m' x' (by simpa using h1) (by simpa using h2)
   have R6 : ∀ (k : Nat) (m : Pm × V), ms[k]? = some m → lc (i + 1 + k) = Ae c0 m.2 := fun k m' h1 => by
     have := gz (k + 1) m' (by simpa using h1)
     rwa [show i + (k + 1) = i + 1 + k by omega] at this
   have KV : ms.length = dC.length := by simpa using hn
   have aaA : ms.length = xs.length := by simpa using ZH
   unfold ss at hv
   cases hb : qM st m v es with
   | none => simp [hb] at hv
   | some p =>
     obtain ⟨zi, es1⟩ := p; simp only [hb] at hv; have go : ∀ {X1 : Lb → Prop} {c1 : Cz}, jQ X1 w0 mu c1 zi a w → Fw c0 uK wb c1 zi w → (∀ l, X1 l → X l ∧ l ∉ zv m v) → gO c1 w lc (i + 1) dC xs es1 → Pass c c1 (fun l => (∃ j, l = .gM j) ∨ l.real = true) →
         ∃ c', jQ (fun l => X l ∧ ∀ m' ∈ (m, v) :: ms, l ∉ zv m'.1 m'.2) w0 mu c' aP a w ∧ Fw c0 uK wb c' aP w ∧ Pass c c' (fun l => (∃ j, l = .gM j) ∨ l.real = true) := by
       intro X1 c1 g1 g2 g3 g4 g5; obtain ⟨c', k1, k2, k3⟩ := BR ms (i + 1) dC xs es1 g1 g2 Z9 RS KV aaA R6 g4 hv; refine ⟨c', k1.mono (fun l hl => ⟨(g3 l hl.1).1, fun m' Aa => ?_⟩), k2, ⟨fun b l hl hb => k3.bK b l hl (g5.bK b l hl hb), fun b hb => k3.ok b (g5.ok b hb)⟩⟩; rcases List.mem_cons.1 Aa with rfl | Aa
       · exact (g3 l hl.1).2
       · exact hl.2 m' Aa
     have kn : zv m v = [] → zi = st → es1 = es → (∃ ag os, av = .val ag os) → ∃ c', jQ (fun l => X l ∧ ∀ m' ∈ (m, v) :: ms, l ∉ zv m'.1 m'.2) w0 mu c' aP a w ∧ Fw c0 uK wb c' aP w ∧ Pass c c' (fun l => (∃ j, l = .gM j) ∨ l.real = true) := by
       rintro e1 rfl rfl ⟨ag, os, rfl⟩
       exact go h ga (fun l hl => ⟨hl, by rw [e1]; simp⟩) hx ⟨fun _ _ _ h => h, fun _ h => h⟩
     cases v with
     | lU us => simp [dY] at qv
     | agg cs =>
       have pN : ∀ u q r, (match eI uK m.mB cs with | some (os, u, r) => some (AV.val true os, bI u, bI u, r) | none => none) = some (av, u, q, r) → ∃ ag os, av = .val ag os := by
         intro u q r qv
         cases hq : eI uK m.mB cs with
         | none => simp [hq] at qv
         | some p =>
           obtain ⟨os, us, rs⟩ := p; simp only [hq, Option.some.injEq, Prod.mk.injEq] at qv; exact ⟨_, _, qv.1.symm⟩
       unfold dY at qv
       cases m with
       | shr =>
         simp only [qM, Option.some.injEq, Prod.mk.injEq] at hb; exact kn rfl hb.1.symm hb.2.symm (pN _ _ _ qv)
       | own =>
         simp only [qM, Option.some.injEq, Prod.mk.injEq] at hb; exact kn rfl hb.1.symm hb.2.symm (pN _ _ _ qv)
       | pick _ =>
         simp only [qM, Option.some.injEq, Prod.mk.injEq] at hb; exact kn rfl hb.1.symm hb.2.symm (pN _ _ _ qv)
       | io =>
         simp only [qM, Option.some.injEq, Prod.mk.injEq] at hb; exact kn rfl hb.1.symm hb.2.symm (pN _ _ _ qv)
       | bD =>
         simp only at qv
         cases hq : eI uK true cs with
         | none => simp [hq] at qv
         | some p =>
           obtain ⟨os, us, rs⟩ := p; simp only [hq] at qv; obtain ⟨pK, wa⟩ := aH qv; simp only [Option.some.injEq, Prod.mk.injEq] at wa; obtain ⟨rfl, _⟩ := wa; obtain ⟨As, l, rfl, ⟨us', rfl, hX⟩, eP⟩ := hx; unfold qM at hb; obtain ⟨gm, F0, e2⟩ := Option.map_eq_some_iff.1 hb; injection e2 with e2 e3; subst e2 e3; obtain ⟨vs0, e0, hl0⟩ := WK; injection e0 with e0; subst e0; obtain ⟨c1, g1, g2, g3⟩ := BQ (i := i) (As := As) cs 0 us'.toList h ga (fun k x v hk hv => hl0.2 k x v hk (by simpa using hv)) (fun k s j g vw hk => by
             have x4 := List.mem_of_getElem? hk; have Dc := List.all_eq_true.1 pK _ x4; unfold MU at Dc; rw [Bool.and_eq_true] at Dc
             cases hA : aQ uK s j g with
             | none => rw [hA] at Dc; cases Dc.2
             | some A =>
               have No : vw = .full := by
                 cases vw with
                 | full => rfl
                 | «from» _ => cases Dc.1
                 | sub _ _ => cases Dc.1
               subst No; rw [hA] at Dc; have ho : os[k]? = some (.own A) := by
                 have := GB cs hq k hk; rw [hA] at this; have Iq : A.own = true := Dc.2; simpa [Iq] using this
               obtain ⟨B, u, k1, k2, k3, k4, k5⟩ := hX k A ho; refine ⟨A, B, u, rfl, by rw [Nat.zero_add]; exact k1, k2, k3, k4, ?_⟩; have : lc i k = c0.lc s j := by
                 rw [Sj]; show It c0 cs[k]? = _; rw [hk]; rfl
               rw [← this, Nat.zero_add]; exact k5) F0
           refine go g1 g2 (fun l hl => ⟨hl.1, fun hm => ?_⟩) ?_ ⟨fun b l hl => g3.bK b l (hl.elim (by rintro ⟨j, rfl⟩; simp) (by intro h; cases l <;> simp_all [Lb.real])), g3.ok⟩
           · obtain ⟨x, Ik, Di⟩ := List.mem_filterMap.1 hm
             cases x with
             | ref s j g vw => simp only [Option.some.injEq] at Di; exact hl.2 s j g vw Ik Di.symm
             | _ => cases Di
           · exact gO.pass dC (i + 1) (fun b k hk hb => g3.bK b _ (by simp) hb) (fun b k j hk hb => g3.bK b _ (by intro y; simp; omega) hb) xs _ (.inl g3.ok) eP
     | one cx =>
       cases cx with
       | ptr b g off =>
         unfold qM at hb
         cases es with
         | nil => simp at hb
         | cons e es2 => cases e with
           | io _ => simp at hb
           | bD _ => simp at hb
           | box os =>
             simp only at hb
             split at hb
             · rename_i s0 MD gW PQ; simp only [Option.some.injEq, Prod.mk.injEq] at hb; obtain ⟨rfl, rfl⟩ := hb; have GC : ∃ os0, av = .box os0 := by
                 unfold dY at qv; simp only at qv
                 cases hq : dx uK b g with
                 | none => simp [hq] at qv
                 | some cs =>
                   simp only [hq] at qv
                   cases Il : eI uK true cs with
                   | none => simp [Il] at qv
                   | some p =>
                     obtain ⟨yc, us, rs⟩ := p; simp only [Il] at qv; obtain ⟨_, wa⟩ := aH qv; simp only [Option.some.injEq, Prod.mk.injEq] at wa; exact ⟨_, wa.1.symm⟩
               obtain ⟨os0, rfl⟩ := GC; obtain ⟨os1, l, e1, hB, eP⟩ := hx
               cases e1
               have hp := (ga.lO (v := x) WK); have e2 := hp.2.2 MD PQ; have e3 : x = .pointer (some ⟨c.bx b, 0, none⟩) := by
                 obtain ⟨mD, vs, ty, q1, _⟩ := hB; rw [e2] at q1 ⊢; injection q1 with q1; injection q1 with q1; injection q1 with q1 q2; rw [q2]
               obtain ⟨c1, g1, g2, g3⟩ := h.boxed gW PQ e3 hB; refine go g1 (ga.trans g2) (fun l hl => ⟨hl.1, by simp [zv]; exact hl.2⟩) ?_ ⟨fun b l hl => g3.bK b l (hl.elim (by rintro ⟨j, rfl⟩; simp) (by intro h; cases l <;> simp_all [Lb.real])), g3.ok⟩; exact gO.pass dC (i + 1) (fun b k hk hb => g3.bK b _ (by constructor <;> simp; omega) hb) (fun b k j hk hb => g3.bK b _ (by constructor <;> simp; omega) hb) xs es2 (.inl g3.ok) eP
             · cases hb
       | ref s j g vw =>
         have pN : m ≠ .io → ∃ ag os, av = .val ag os := by
           intro hm; unfold dY at qv
           cases m with
           | io => exact absurd rfl hm
           | shr =>
             cases hq : eI uK Pm.shr.mB [.ref s j g vw] with
             | none => simp [hq] at qv
             | some p => obtain ⟨os, us, rs⟩ := p; simp only [hq, Option.some.injEq, Prod.mk.injEq] at qv; exact ⟨_, _, qv.1.symm⟩
           | bD =>
             cases hq : eI uK Pm.bD.mB [.ref s j g vw] with
             | none => simp [hq] at qv
             | some p => obtain ⟨os, us, rs⟩ := p; simp only [hq, Option.some.injEq, Prod.mk.injEq] at qv; exact ⟨_, _, qv.1.symm⟩
           | own =>
             cases hq : eI uK Pm.own.mB [.ref s j g vw] with
             | none => simp [hq] at qv
             | some p => obtain ⟨os, us, rs⟩ := p; simp only [hq, Option.some.injEq, Prod.mk.injEq] at qv; exact ⟨_, _, qv.1.symm⟩
           | pick pl =>
             cases hq : eI uK (Pm.pick pl).mB [.ref s j g vw] with
             | none => simp [hq] at qv
             | some p => obtain ⟨os, us, rs⟩ := p; simp only [hq, Option.some.injEq, Prod.mk.injEq] at qv; exact ⟨_, _, qv.1.symm⟩
         cases m with
         | shr =>
           simp only [qM, Option.some.injEq, Prod.mk.injEq] at hb; exact kn rfl hb.1.symm hb.2.symm (pN (by simp))
         | bD =>
           simp only [qM, Option.some.injEq, Prod.mk.injEq] at hb; exact kn rfl hb.1.symm hb.2.symm (pN (by simp))
         | own =>
           simp only [qM, Option.some.injEq, Prod.mk.injEq] at hb; exact kn rfl hb.1.symm hb.2.symm (pN (by simp))
         | pick _ =>
           simp only [qM, Option.some.injEq, Prod.mk.injEq] at hb; exact kn rfl hb.1.symm hb.2.symm (pN (by simp))
         | io =>
           unfold qM at hb; simp only at hb
           split at hb
           · rename_i B es2 A2 Iq; simp only [Option.some.injEq, Prod.mk.injEq] at hb; obtain ⟨rfl, rfl⟩ := hb; have GC : ∃ A0, av = .io A0 ∧ aQ uK s j g = some A0 := by
               unfold dY at qv
               cases vw with
               | full =>
                 cases hA : aQ uK s j g with
                 | none => simp [hA] at qv
                 | some A =>
                   simp only [hA] at qv; obtain ⟨_, wa⟩ := aH qv; simp only [Option.some.injEq, Prod.mk.injEq] at wa; exact ⟨A, wa.1.symm, rfl⟩
               | «from» _ => simp at qv
               | sub _ _ => simp at qv
             obtain ⟨A0, rfl, Ii⟩ := GC; obtain ⟨B', l, e1, hw, hlen, hO, eP⟩ := hx
             cases e1
             obtain ⟨A0', q1, q2, q3, q4, _⟩ := ga.refs s j g A2 WK.2.1 Iq; rw [Ii] at q1; cases q1; have hO' : OwnAt c w (.bK i 0) (c.lc s j) B x := by
               rw [q4]; have : lc i 0 = c0.lc s j := by rw [Sj]; rfl
               rw [← this]; exact hO
             obtain ⟨g1, g2⟩ := h.io Iq (hw.trans q2.symm) (hlen.trans q3.symm) hO'; have D2 : ∀ b l, (∀ y, l ≠ .bK i y) → c.own b = some l → (c.dZ (rk i 0 s j) c.bx c.lc).own b = some l := by
               intro b l hl hb; show (c.own b).map _ = _; rw [hb]; simp only [Option.map_some, Option.some.injEq]
               cases l with
               | bK x y => simp only [rk]; rw [if_neg]; rintro ⟨rfl, _⟩; exact hl y rfl
               | _ => rfl
             refine go g1 (ga.trans g2) (fun l hl => ⟨hl.1, by simp [zv]; exact hl.2⟩) ?_ ⟨fun b l hl => D2 b l (hl.elim (by rintro ⟨j, rfl⟩; simp) (by intro h; cases l <;> simp_all [Lb.real])), fun b hb => Cz.kV.2 hb⟩; exact gO.pass dC (i + 1) (fun b k hk hb => D2 b _ (by simp) hb) (fun b k j hk hb => D2 b _ (by intro y; simp; omega) hb) xs es2 (.inl fun b hb => Cz.kV.2 hb) eP
           · cases hb
       | _ =>
         simp only [qM, Option.some.injEq, Prod.mk.injEq] at hb; refine kn rfl hb.1.symm hb.2.symm ?_; unfold dY at qv; simp only at qv
         split at qv
         · simp only [Option.some.injEq, Prod.mk.injEq] at qv; exact ⟨_, _, qv.1.symm⟩
         · cases qv
end Go.TM
namespace Go.TM
open Go Go.RowKit
def ym (d : Nat) : Lb → Lb
 | .gM j => .sp d j
 | l => l
theorem wu (d : Nat) : Af (ym d) := ⟨fun l h => by cases l <;> simp [ym, Lb.real] at h ⊢⟩
theorem tV : (os ps : List OV) → aX (os ++ ps) = aX os ++ aX ps
 | [], ps => rfl
 | o :: os, ps => by simp [aX, tV os ps]
theorem kW : (os : List OV) → (aX os).length = os.length
 | [] => rfl
 | o :: os => by simp [aX, kW os]
theorem Nq (d g j : Nat) (o : OV) : ∃ x, aV d g j [o] = [x] := by
 cases o <;> exact ⟨_, rfl⟩
theorem kD.vals {c : Cz} {w : World} : (rs : List RV) → (j : Nat) → (vs : List Value) → kD c w j rs vs →
   ∃ lcs : Nat → Loc, (∀ k A, nth (aX (rs.flatMap RV.uk)) k = some (some A) → ∃ v, OwnAt c w (.gM (j + k)) (lcs (j + k)) A v) ∧ rs.length = vs.length ∧ (∀ d g, (jH d g j rs).length = rs.length) ∧
     ∀ (c2 : Cz) (gm : St) (d g : Nat), (∀ b, c.ok b → c2.ok b) → (∀ k, k < (rs.flatMap RV.uk).length → c2.lc d (j + k) = lcs (j + k)) → (∀ k A, k < (rs.flatMap RV.uk).length → aQ gm d (j + k) g = some A → nth (aX (rs.flatMap RV.uk)) k = some (some A)) → g ≤ cW gm d →
       ∀ (k : Nat) (x : V) (v : Value), (jH d g j rs)[k]? = some x → vs[k]? = some v → xP c2 gm w x v
 | [], j, vs, h => by
   subst h; exact ⟨fun _ => .nil, fun k A hA => by simp [aX] at hA, rfl, fun _ _ => rfl, fun _ _ _ _ _ _ _ _ k x v hx => by simp [jH] at hx⟩
 | r :: rs, j, vs, h => by
   obtain ⟨v, l, us, rfl, hL, hR, hV⟩ : ∃ (v : Value) (l us : List Value), vs = v :: l ∧ bd c w .gM j r.uk us ∧ kD c w (j + r.uk.length) rs l ∧
       (∀ (c2 : Cz) (gm : St) (d g : Nat), eK c2 gm w (aV d g j r.uk) us → xP c2 gm w (MO d g j r) v) := by
     cases r with
     | one o =>
       obtain ⟨v, l, h1, h2, h3⟩ := h; refine ⟨v, l, [v], h1, h2, h3, fun c2 gm d g hl => ?_⟩; unfold MO; obtain ⟨x, hx⟩ := Nq d g j o; show xP c2 gm w (match aV d g j [o] with | [c] => .one c | _ => .one .bad) v; have hl : eK c2 gm w (aV d g j [o]) [v] := hl; rw [hx] at hl ⊢; exact hl.2 0 x v rfl rfl
     | agg os =>
       obtain ⟨us, l, h1, h2, h3⟩ := h; exact ⟨.agg us, l, us.toList, h1, h2, h3, fun c2 gm d g hl => ⟨us, rfl, hl⟩⟩
     | ptr os =>
       obtain ⟨v, l, h1, ⟨mD, us, ty, _, _, _, g4⟩, h3⟩ := h; exact ⟨v, l, .slice none 0 0 :: us.toList, h1, ⟨_, rfl, g4⟩, h3, fun _ _ _ _ _ => trivial⟩
   obtain ⟨l1, a1, a2⟩ := bd.cells r.uk j us hL; obtain ⟨l2, b1, b2, b3, b4⟩ := kD.vals rs (j + r.uk.length) l hR; have Q4 : aX ((r :: rs).flatMap RV.uk) = aX r.uk ++ aX (rs.flatMap RV.uk) := by
     rw [List.flatMap_cons, tV]
   refine ⟨fun k => if k < j + r.uk.length then l1 k else l2 k, fun k A hA => ?_, by simp [b2], fun d g => by simp [jH, b3], fun c2 gm d g fF gz zq hg k x v' hx my => ?_⟩
   · rw [Q4, ln, kW] at hA
     by_cases e : k < r.uk.length
     · rw [if_pos e] at hA; have := a1 k A hA; show ∃ v, OwnAt c w _ (if j + k < _ then _ else _) A v; rw [if_pos (by omega)]; exact this
     · rw [if_neg e] at hA; have := b1 _ A hA; rw [show j + r.uk.length + (k - r.uk.length) = j + k by omega] at this; show ∃ v, OwnAt c w _ (if j + k < _ then _ else _) A v; rw [if_neg (by omega)]; exact this
   · rw [Q4] at zq; rw [List.flatMap_cons, List.length_append] at gz zq
     cases k with
     | zero =>
       simp only [jH, List.getElem?_cons_zero, Option.some.injEq] at hx my; subst hx my; refine hV c2 gm d g (a2 c2 gm d g fF (fun k hk => ?_) (fun k A hk hA => ?_) hg)
       · have : c2.lc d (j + k) = if j + k < j + r.uk.length then l1 (j + k) else l2 (j + k) := gz k (by omega)
         rwa [if_pos (by omega)] at this
       · have := zq k A (by omega) hA
         rwa [ln, kW, if_pos hk] at this
     | succ k =>
       refine b4 c2 gm d g fF (fun k hk => ?_) (fun k A hk hA => ?_) hg k x v' (by simpa [jH] using hx) (by simpa using my)
       · have : c2.lc d (j + (r.uk.length + k)) = if j + (r.uk.length + k) < j + r.uk.length then l1 (j + (r.uk.length + k)) else l2 (j + (r.uk.length + k)) := gz (r.uk.length + k) (by omega)
         rw [if_neg (by omega)] at this; rw [Nat.add_assoc]; exact this
       · rw [Nat.add_assoc] at hA; have := zq (r.uk.length + k) A (by omega) hA
         rwa [ln, kW, if_neg (by omega), Nat.add_sub_cancel_left] at this
def sF (d : Nat) : Lb → Lb
 | .gM 0 => .box d
 | .gM (j + 1) => .sp d (j + 1)
 | l => l
theorem wv (d : Nat) : Af (sF d) := ⟨fun l h => by
 cases l with
 | gM j => cases j <;> simp [sF, Lb.real] at h ⊢
 | _ => simp [sF, Lb.real] at h ⊢⟩
theorem jQ.PR {X : Lb → Prop} {w0 : World} {mu : Mu} {c : Cz} {st : St} {a : Act} {w : World} (h : jQ X w0 mu c st a w) {d : Nat} {s0 : Sl} {os : List OV} {v : Value} (gW : nth st d = some s0)
   (hv : ∃ mD us ty, v = .pointer (some ⟨mD, 0, none⟩) ∧ c.own mD = some (.gM 0) ∧ w.heap[mD]? = some (.cells us ty (0, 0)) ∧ bd c w .gM 1 os us.toList) (hd : d < a.tmps.size) :
   ∃ c', jQ X w0 mu c' (lN (fun s => { s with v := .one (.ptr d (s.bg + 1) 0), box := some (aV d (s.ag + 1) 1 os), bg := s.bg + 1, aJ := none :: aX os, ag := s.ag + 1 }) st d) (a.put (some d) v) w ∧
     Fw c st w c' (lN (fun s => { s with v := .one (.ptr d (s.bg + 1) 0), box := some (aV d (s.ag + 1) 1 os), bg := s.bg + 1, aJ := none :: aX os, ag := s.ag + 1 }) st d) w ∧ ∀ b l, l.real = true → c.own b = some l → c'.own b = some l := by
 obtain ⟨mD, us, ty, rfl, eY, Nr, hL⟩ := hv; obtain ⟨lcs, g1, g2⟩ := bd.cells os 1 _ hL
 let c' := c.dZ (sF d) (fun s => if s = d then mD else c.bx s) (fun s j => if s = d then lcs j else c.lc s j)
 let aP := lN (fun s => { s with v := .one (.ptr d (s.bg + 1) 0), box := some (aV d (s.ag + 1) 1 os), bg := s.bg + 1, aJ := none :: aX os, ag := s.ag + 1 }) st d
 have hn : ∀ s, nth aP s = if s = d then some { s0 with v := .one (.ptr d (s0.bg + 1) 0), box := some (aV d (s0.ag + 1) 1 os), bg := s0.bg + 1, aJ := none :: aX os, ag := s0.ag + 1 } else nth st s := by
   intro s; show nth (lN _ st d) s = _; rw [dz]
   by_cases e : s = d
   · subst e; rw [if_pos rfl, if_pos rfl, gW]; rfl
   · rw [if_neg e, if_neg e]
 have zt : cW aP d = s0.ag + 1 := by unfold cW; rw [hn]; simp
 have Gv : cW st d = s0.ag := by unfold cW; rw [gW]
 have Q5 : fL aP d = s0.bg + 1 := by unfold fL; rw [hn]; simp
 have Sk : fL st d = s0.bg := by unfold fL; rw [gW]
 have ht := wv d; have ga : Fw c st w c' aP w := {
   stays := mN c w _ _ _
   refs := fun a' j' g' A' hg eb => by
     obtain ⟨sl, k1, k2, k3⟩ := bc eb; rw [hn] at k1
     by_cases e : a' = d
     · rw [if_pos e] at k1
       cases k1
       subst e; simp only at k2; omega
     · rw [if_neg e] at k1; exact ⟨A', nc k1 k2 k3, rfl, rfl, by show (if a' = d then _ else _) = _; rw [if_neg e], fun _ => ⟨rfl, fun _ _ _ _ => rfl⟩⟩
   AR := fun b' g' lV hg Ig => by
     obtain ⟨sl, k1, k2, k3⟩ := gw Ig; rw [hn] at k1
     by_cases e : b' = d
     · rw [if_pos e] at k1
       cases k1
       subst e; simp only at k2; omega
     · rw [if_neg e] at k1; exact ⟨⟨lV, by unfold dx; rw [k1]; simp [k2, k3]⟩, by show (if b' = d then _ else _) = _; rw [if_neg e]⟩
   gA := fun a' => by
     by_cases e : a' = d
     · subst e; rw [zt, Gv]; omega
     · unfold cW; rw [hn, if_neg e]; exact Nat.le_refl _
   gB := fun a' => by
     by_cases e : a' = d
     · subst e; rw [Q5, Sk]; omega
     · unfold fL; rw [hn, if_neg e]; exact Nat.le_refl _
   gE := fun a' => by
     by_cases e : a' = d
     · subst e; unfold lh; rw [hn, if_pos rfl, gW]; exact Nat.le_refl _
     · unfold lh; rw [hn, if_neg e]; exact Nat.le_refl _ }
 have Gw : ∀ k A, aQ aP d (1 + k) (s0.ag + 1) = some A → nth (aX os) k = some (some A) := by
   intro k A hA; obtain ⟨sl, k1, k2, k3⟩ := bc hA; rw [hn, if_pos rfl] at k1
   cases k1
   rw [show 1 + k = k + 1 by omega] at k3; exact k3
 have rM : ∀ t, eo c' aP w (bW aP t) ((a.put (some d) (.pointer (some ⟨mD, 0, none⟩))).eval (.tmp t)) := by
   intro t; rw [eval_put]
   by_cases e : t = d
   · subst e; rw [if_pos ⟨rfl, hd⟩]; have : bW aP t = .one (.ptr t (s0.bg + 1) 0) := by unfold bW; rw [hn, if_pos rfl]
     rw [this]; refine ⟨rfl, by rw [Q5]; exact Nat.le_refl _, fun cs _ => ?_⟩; show _ = Value.pointer (some ⟨(if t = t then mD else c.bx t), 0, none⟩); rw [if_pos rfl]
   · rw [if_neg (by rintro ⟨e2, _⟩; exact e (Option.some.inj e2).symm)]; have : bW aP t = bW st t := by unfold bW; rw [hn, if_neg e]
     rw [this]; exact ga.lO (h.eL t)
 refine ⟨c', ⟨rM, fun s sl cs hX hs hb => ?_, fun s j sl A hX hs hA => ?_, fun b l hb => ?_, fun b hb h1 => h.free b hb (by unfold Cz.ok at *; simpa [c', Cz.dZ] using h1), h.kept, h.old, by simpa [Act.put] using h.plain, fun p hp => ga.dR (h.dR p hp)⟩, ga, fun b l hl hb => ?_⟩
 case refine_4 =>
   show (c.own b).map (sF d) = _; rw [hb]; simp [(wv d).other l (.inr hl)]
 · rw [hn] at hs
   by_cases e : s = d
   · subst e; rw [if_pos rfl] at hs
     cases hs
     simp only [Option.some.injEq] at hb; subst hb; refine ⟨?_, us, ty, by show w.heap[if s = s then mD else c.bx s]? = _; rw [if_pos rfl]; exact Nr, ?_⟩
     · show (c.own (if s = s then mD else c.bx s)).map (sF s) = some (.box s); rw [if_pos rfl, eY]; rfl
     · exact g2 c' aP s (s0.ag + 1) (fun b hb => Cz.kV.2 hb) (fun k _ => by show (if s = s then _ else _) = _; rw [if_pos rfl]) (fun k A _ hA => Gw k A hA) (by rw [zt]; exact Nat.le_refl _)
   · rw [if_neg e] at hs; exact (h.boxes s sl cs hX hs hb).dZ ht ga (by show (if s = d then _ else _) = _; rw [if_neg e])
 · rw [hn] at hs
   by_cases e : s = d
   · subst e; rw [if_pos rfl] at hs
     cases hs
     cases j with
     | zero => simp [nth] at hA
     | succ j =>
       obtain ⟨v', my⟩ := g1 j A hA; rw [show 1 + j = j + 1 by omega] at my; exact my.arr (by simp) (by simp [sF])
   · rw [if_neg e] at hs; exact (h.aJ s j sl A hX hs hA).dZ ht (by simp [e])
 · simp only [c', Cz.dZ, Option.map_eq_some_iff] at hb; obtain ⟨k, hk, e⟩ := hb; obtain ⟨h1, h2⟩ := h.owned b k hk; refine ⟨h1, h2.imp (fun e2 => ?_) id⟩; subst e2; rw [← e]; rfl
theorem E4 {st : St} {d : Nat} {outs : List RV} (h : ∀ os, outs ≠ [.ptr os]) : um st (some d) outs = match nth st d with
   | some s => some (lN (fun sl => { sl with v := (match jH d (s.ag + 1) 0 outs with | [v] => v | vs => .lU vs), aJ := aX (outs.flatMap RV.uk), ag := s.ag + 1 }) st d)
   | none => none := by
 unfold um; simp only
 cases nth st d with
 | none => rfl
 | some s =>
   cases outs with
   | nil => rfl
   | cons r l => cases l with
     | cons _ _ => cases r <;> rfl
     | nil => cases r with
       | one o => rfl
       | agg os => rfl
       | ptr os => exact absurd rfl (h os)
theorem jQ.laid {X : Lb → Prop} {w0 : World} {mu : Mu} {c : Cz} {st : St} {a : Act} {w : World} (h : jQ X w0 mu c st a w) {d : Option Nat} {outs : List RV} {v : Value} (hv : pJ c w outs v) {aP : St} (hl : um st d outs = some aP) (hd : ∀ k, d = some k → k < a.tmps.size) :
   ∃ c', jQ X w0 mu c' aP (a.put d v) w ∧ Fw c st w c' aP w ∧ ∀ b l, l.real = true → c.own b = some l → c'.own b = some l := by
 cases d with
 | none =>
   cases outs with
   | nil =>
     simp only [um, Option.some.injEq] at hl; subst hl; exact ⟨c, h, Fw.refl c st w, fun _ _ _ h => h⟩
   | cons _ _ => simp [um] at hl
 | some d =>
   by_cases hp : ∃ os, outs = [.ptr os]
   · obtain ⟨os, rfl⟩ := hp; unfold um at hl; simp only at hl
     cases gW : nth st d with
     | none => simp [gW] at hl
     | some s0 =>
       simp only [gW, Option.some.injEq] at hl; subst hl; refine h.PR gW ?_ (hd d rfl); rcases hv with ⟨r, h1, h2⟩ | ⟨h1, _⟩
       · simp only [List.cons.injEq, and_true] at h1; subst h1; obtain ⟨v', l, e1, h3, _⟩ := h2; simp only [List.cons.injEq] at e1; rw [e1.1]; exact h3
       · exact absurd rfl h1
   rw [E4 (fun os e => hp ⟨os, e⟩)] at hl
   cases gW : nth st d with
   | none => simp [gW] at hl
   | some s0 =>
     simp only [gW, Option.some.injEq] at hl; obtain ⟨vs, hR, hVV⟩ : ∃ vs, kD c w 0 outs vs ∧ ∀ (c2 : Cz) (gm : St) (g : Nat), (jH d g 0 outs).length = vs.length → (∀ (k : Nat) (x : V) (u : Value), (jH d g 0 outs)[k]? = some x → vs[k]? = some u → xP c2 gm w x u) →
         eo c2 gm w (match jH d g 0 outs with | [v] => v | vs => .lU vs) v := by
       rcases hv with ⟨r, rfl, h2⟩ | ⟨h1, vs, rfl, h2⟩
       · refine ⟨[v], h2, fun c2 gm g hlen uL => ?_⟩; exact Gq (uL 0 _ v rfl rfl)
       · refine ⟨vs.toList, h2, fun c2 gm g hlen uL => ?_⟩; have Sm : eo c2 gm w (.lU (jH d g 0 outs)) (.tuple vs) := ⟨vs, rfl, by simpa using hlen, fun i x y hx hy => uL i x y hx (by simpa using hy)⟩
         split
         · rename_i x hx; obtain ⟨_, _, _, b3, _⟩ := kD.vals outs 0 vs.toList h2; have := b3 d g; rw [hx] at this; exact absurd this.symm h1
         · exact Sm
     obtain ⟨lcs, g1, g2, g3, g4⟩ := kD.vals outs 0 vs hR
     let c' := c.dZ (ym d) c.bx (fun s j => if s = d then lcs j else c.lc s j)
     let V0 := (match jH d (s0.ag + 1) 0 outs with | [v] => v | vs => .lU vs)
     have hn : ∀ s, nth aP s = if s = d then some { s0 with v := V0, aJ := aX (outs.flatMap RV.uk), ag := s0.ag + 1 } else nth st s := by
       intro s; rw [← hl, dz]
       by_cases e : s = d
       · subst e; rw [if_pos rfl, if_pos rfl, gW]; rfl
       · rw [if_neg e, if_neg e]
     have zt : cW aP d = s0.ag + 1 := by unfold cW; rw [hn]; simp
     have Gv : cW st d = s0.ag := by unfold cW; rw [gW]
     have ht := wu d; have ga : Fw c st w c' aP w := {
       stays := mN c w _ _ _
       refs := fun a' j' g' A' hg eb => by
         obtain ⟨sl, k1, k2, k3⟩ := bc eb; rw [hn] at k1
         by_cases e : a' = d
         · rw [if_pos e] at k1
           cases k1
           subst e; simp only at k2; omega
         · rw [if_neg e] at k1; exact ⟨A', nc k1 k2 k3, rfl, rfl, by show (if a' = d then _ else _) = _; rw [if_neg e], fun _ => ⟨rfl, fun _ _ _ _ => rfl⟩⟩
       AR := fun b' g' lV hg Ig => by
         obtain ⟨sl, k1, k2, k3⟩ := gw Ig; rw [hn] at k1
         by_cases e : b' = d
         · rw [if_pos e] at k1
           cases k1
           subst e; exact ⟨⟨lV, by unfold dx; rw [gW]; simp at k2 k3; simp [k2, k3]⟩, rfl⟩
         · rw [if_neg e] at k1; exact ⟨⟨lV, by unfold dx; rw [k1]; simp [k2, k3]⟩, rfl⟩
       gA := fun a' => by
         by_cases e : a' = d
         · subst e; rw [zt, Gv]; omega
         · unfold cW; rw [hn, if_neg e]; exact Nat.le_refl _
       gB := fun a' => by
         by_cases e : a' = d
         · subst e; unfold fL; rw [hn, if_pos rfl, gW]; exact Nat.le_refl _
         · unfold fL; rw [hn, if_neg e]; exact Nat.le_refl _
       gE := fun a' => by
         by_cases e : a' = d
         · subst e; unfold lh; rw [hn, if_pos rfl, gW]; exact Nat.le_refl _
         · unfold lh; rw [hn, if_neg e]; exact Nat.le_refl _ }
     have Gw : ∀ k A, aQ aP d k (s0.ag + 1) = some A → nth (aX (outs.flatMap RV.uk)) k = some (some A) := by
       intro k A hA; obtain ⟨sl, k1, k2, k3⟩ := bc hA; rw [hn, if_pos rfl] at k1
       cases k1
       exact k3
     have rM : ∀ t, eo c' aP w (bW aP t) ((a.put (some d) v).eval (.tmp t)) := by
       intro t; rw [eval_put]
       by_cases e : t = d
       · subst e; rw [if_pos ⟨rfl, hd t rfl⟩]; have : bW aP t = V0 := by unfold bW; rw [hn, if_pos rfl]
         rw [this]; refine hVV c' aP (s0.ag + 1) (by rw [g3, g2]) (g4 c' aP t (s0.ag + 1) (fun b hb => Cz.kV.2 hb) (fun k _ => ?_) (fun k A _ hA => Gw k A (by simpa using hA)) (by rw [zt]; exact Nat.le_refl _)); show (if t = t then _ else _) = _; rw [if_pos rfl]
       · rw [if_neg (by rintro ⟨e2, _⟩; exact e (Option.some.inj e2).symm)]; have : bW aP t = bW st t := by unfold bW; rw [hn, if_neg e]
         rw [this]; exact ga.lO (h.eL t)
     refine ⟨c', ⟨rM, fun s sl cs hX hs hb => ?_, fun s j sl A hX hs hA => ?_, fun b l hb => ?_, fun b hb h1 => h.free b hb (by unfold Cz.ok at *; simpa [c', Cz.dZ] using h1), h.kept, h.old, by simpa [Act.put] using h.plain, fun p hp => ga.dR (h.dR p hp)⟩, ga, fun b l hl hb => ?_⟩
     case refine_4 =>
       show (c.own b).map (ym d) = _; rw [hb]; simp [(wu d).other l (.inr hl)]
     · rw [hn] at hs
       by_cases e : s = d
       · subst e; rw [if_pos rfl] at hs
         cases hs
         exact (h.boxes s s0 cs hX gW hb).dZ ht ga rfl
       · rw [if_neg e] at hs; exact (h.boxes s sl cs hX hs hb).dZ ht ga rfl
     · rw [hn] at hs
       by_cases e : s = d
       · subst e; rw [if_pos rfl] at hs
         cases hs
         obtain ⟨v', my⟩ := g1 j A hA; exact my.arr (by simp) (by simp [ym])
       · rw [if_neg e] at hs; exact (h.aJ s j sl A hX hs hA).dZ ht (by simp [e])
     · simp only [c', Cz.dZ, Option.map_eq_some_iff] at hb; obtain ⟨k, hk, e⟩ := hb; obtain ⟨h1, h2⟩ := h.owned b k hk; refine ⟨h1, h2.imp (fun e2 => ?_) id⟩; subst e2; rw [← e]; rfl
end Go.TM
