/- A machine over trees: an evaluator of the code, and that what it finds is so; part 2. -/
import Derived.Test.YtiljcjnnhkidbaaGreatTm1
import Derived.Laws.MakeOwn
import Derived.Great.BuildSlice
import Derived.Laws.Cover3
import Derived.Laws.BytesString
import Derived.Tactics
set_option linter.unusedSimpArgs false
set_option linter.unusedVariables false
namespace Go.TM
open Go Go.RowKit
theorem uF {b : Bool} {t e : N} {y : St} (h : (N.br b t e).val = some y) : (b = true ∧ t.val = some y) ∨ (b = false ∧ e.val = some y) := by
 cases b
 · exact .inr ⟨rfl, h⟩
 · exact .inl ⟨rfl, h⟩
theorem fG {b : Bool} {t : N} {y : St} (h : (N.br b t N.fail).val = some y) : b = true ∧ t.val = some y := by
 rcases uF h with h | ⟨_, h⟩
 · exact h
 · simp [N.val] at h
theorem BM {st : St} {y : V} {b k : Nat} {B : ig} (h : JE st y = some (b, k, B)) : ∃ g, y = .one (.ref b k g .full) ∧ bd st b k g = some B ∧ B.own = true ∧ B.md = .dp := by
 unfold JE at h
 split at h
 · rename_i a' j' g
   cases hA : bd st a' j' g with
   | none => rw [hA] at h; cases h
   | some A =>
     rw [hA] at h; obtain ⟨h1, h2⟩ := aI h; rw [Bool.and_eq_true] at h1; simp only [Option.some.injEq, Prod.mk.injEq] at h2; obtain ⟨rfl, rfl, rfl⟩ := h2; exact ⟨g, rfl, hA, h1.1, Md.oB.1 h1.2⟩
 · cases h
theorem yH {c : Cz} {w : World} {s j : Nat} {A : ig} (h : cu c w s j A) (ho : A.own = true) (hm : A.md = .dp) {v : Value} (hv : jx (c.lc s j) A.r.width 0 A.xs.length v) :
   ∃ (g : Nat → List Nat) (vs : List Value) (xb : Option Nat), dk w (fun p k => c.own k = some (.sp s j) ∧ g k = p) A.r 0 vs A.xs ∧ (∀ b, xb = some b → c.own b = some (.sp s j) ∧ g b = []) ∧
     ((xb = none ∧ v = .slice none 0 0 ∧ A.xs.length = 0) ∨ ∃ b off lo cap n ad cur te, xb = some b ∧ v = .slice (some ad) A.xs.length n ∧ A.xs.length ≤ n ∧ lo + n ≤ cap ∧ (n ≠ 0 → ad = ⟨b, off + lo * A.r.width, none⟩) ∧
     w.heap[b]? = some (.cells cur te (0, 0)) ∧ off + cap * A.r.width ≤ cur.size ∧ w.rangeAt b (off + lo * A.r.width) vs) := by
 unfold cu at h
 cases hl : c.lc s j with
 | nil =>
   rw [hl] at h hv; refine ⟨fun _ => [], [], none, by rw [h]; rfl, (fun b e => by cases e), .inl ⟨rfl, hv.1, hv.2⟩⟩
 | «at» b off cap =>
   rw [hl] at h hv; obtain ⟨h0, h2, ⟨cur, te, h3, h4⟩, h5⟩ := h; rw [ho] at h0; unfold cg at h5; rw [hm] at h5; obtain ⟨g, g1, g2⟩ := h5; obtain ⟨ad, n, e, k1, k2, k3⟩ := hv; obtain ⟨vs, q1, q2⟩ := yG b off 0 A.xs (fun i x hx => by rw [Nat.zero_add]; exact g2 i x hx); exact ⟨g, vs, some b, q2, (fun b' e => by cases e; exact ⟨h0, g1⟩), .inr ⟨b, off, 0, cap, n, ad, cur, te, rfl, e, k1, by omega, k3, h3, h4, by simpa using q1⟩⟩
def N6 (n : Nat) : List Nat → List Nat
 | [] => []
 | i :: l => (i + n) :: l
theorem DT {P : Program} {T : la} (hT : gq P T) {w0 : World} {mu : Mu} {c : Cz} {st : St} {a : Act} {w : World} (h : Rel w0 mu c st a w)
   {d : Option Nat} {t ty : Nat} {r : RT} {bytes : Nat} (ht : T.elem t = some (r, bytes)) {x : V} {ux uy : Value} {b k gb : Nat} {B : ig} {ys : List (ar r)} (hx : eF c st w x ux) (hy : jG c st w (.ref b k gb .full) uy) (hB : bd st b k gb = some B) (SN : B.own = true) (N7 : B.md = .dp)
   (SO : cm r B.xs = some ys) {bf : St} (hv : (zL st d r bytes x b k ys).val = some bf) (hd : ∀ k, d = some k → k < a.tmps.size) :
   ∃ v w', (Builtin.append_ #[t, t] ty #[ux, uy]).run P w = .ok v w' ∧ ∃ c', Rel w0 mu c' bf (a.put d v) w' := by
 obtain ⟨e, he⟩ := bD SO; subst e; simp only at he; subst he; obtain ⟨gy, vy, yb, DE, hyb, hyc⟩ := yH (h.sx hB) SN N7 (hy.2.2 B hB); have LP : (B.xs.length = 0 ∧ (uy = .slice none 0 0 ∨ ∃ a c, uy = .slice (some a) 0 c)) ∨ (B.xs.length ≠ 0 ∧ ∃ a c, uy = .slice (some a) B.xs.length c ∧ ∀ (j : Nat) v, vy[j]? = some v → w.cell? (a.add j) = some v) := by
   rcases hyc with ⟨_, e1, e2⟩ | ⟨b', off, lo, cap, n, ad, cur, te, _, e1, e2, e3, e4, e5, e6, e7⟩
   · exact .inl ⟨e2, .inl e1⟩
   · by_cases h0 : B.xs.length = 0
     · exact .inl ⟨h0, .inr ⟨ad, n, by rw [e1, h0]⟩⟩
     · refine .inr ⟨h0, ad, n, e1, fun j v hv => ?_⟩; rw [e4 (by omega), Addr.add_mid]; exact e7 j v hv
 unfold zL at hv
 split at hv
 · -- behind nothing
   obtain ⟨hb, hv⟩ := fG hv; obtain ⟨kk, s0, rfl, jy, rfl⟩ := mO hv; obtain ⟨zk, zl, _, _, _⟩ := lf [(b, k)] h; have hR := zk.iW zl kk 0; refine BL hT hR ht (xs := []) (ys := B.xs) (vx := []) (vy := vy) (PX := fun _ _ => False) (PY := fun p q => c.own q = some (.sp b k) ∧ gy q = p) (g := gy) (xb := none) jy (hd kk rfl) (Nat.le_of_ble_eq_true hb) rfl DE (fun _ _ _ h => h.elim) (fun i q k' hk => ⟨by simp, Cz.ni (n := (b, k)) (by simp) hk.1, by simpa using hk.2⟩) LP (fun _ e => by cases e) (.inl ⟨rfl, hx, rfl⟩)
 · rename_i a' j g vw
   split at hv
   · rename_i A RA; obtain ⟨g2, e1, hA, hAo, hAm⟩ := BM RA; injection e1 with e1; injection e1 with q1 q2 q3 q4; subst q1 q2 q3 q4
     cases sB : cm B.r A.xs with
     | none => rw [sB] at hv; simp [N.val] at hv
     | some xs =>
       rw [sB] at hv; simp only at hv; obtain ⟨ik, hv⟩ := dJ hv; obtain ⟨hb, hv⟩ := fG hv; obtain ⟨kk, s0, rfl, jy, rfl⟩ := mO hv; obtain ⟨r0, FD, Xj, Xk⟩ := A; obtain ⟨e, he⟩ := bD sB; simp only at e; subst e; simp only at he; subst he; have JW : Lb.sp a' j ≠ Lb.sp b k := by
         intro e; injection e with e1 e2; subst e1 e2; simp at ik
       obtain ⟨gx, vx, xb, Fg, HI, hxc⟩ := yH (h.sx hA) hAo hAm (hx.2.2 _ hA); obtain ⟨zk, zl, _, _, _⟩ := lf [(a', j), (b, k)] h; have hR := zk.iW zl kk 0; have yI : ∀ q, c.own q = some (.sp a' j) → (c.iW [(a', j), (b, k)] (.sp kk 0)).own q = some (.sp kk 0) := fun q hq => Cz.ni (n := (a', j)) (by simp) hq
       classical
       refine BL hT hR ht (xs := xs) (ys := B.xs) (vx := vx) (vy := vy) (PX := fun p q => c.own q = some (.sp a' j) ∧ gx q = p) (PY := fun p q => c.own q = some (.sp b k) ∧ gy q = p)
         (g := fun q => if c.own q = some (.sp b k) then N6 xs.length (gy q) else gx q) (xb := xb) jy (hd kk rfl) (Nat.le_of_ble_eq_true hb) Fg DE (fun i q k' hk => ⟨?_, yI _ hk.1, ?_⟩) (fun i q k' hk => ⟨?_, Cz.ni (n := (b, k)) (by simp) hk.1, ?_⟩) LP (fun b' e => yI _ (HI b' e).1) ?_
       · intro e; have := (HI k' e).2; rw [hk.2] at this; simp at this
       · rw [if_neg]
         · exact hk.2
         · rw [hk.1]; intro e; exact JW (Option.some.inj e)
       · intro e; have := (HI k' e).1; rw [hk.1] at this; exact JW (Option.some.inj this).symm
       · rw [if_pos hk.1, hk.2]; rfl
       · exact hxc
   · simp [N.val] at hv
 · simp [N.val] at hv
theorem Ab {P : Program} {T : la} (hT : gq P T) {w0 : World} {mu : Mu} {c : Cz} {st : St} {a : Act} {w : World} (h : Rel w0 mu c st a w)
   {d : Option Nat} {t ty : Nat} {x y : V} {ux uy : Value} (hx : eF c st w x ux) (hy : eF c st w y uy) {bf : St} (hv : (zA T st d t x y).val = some bf) (hd : ∀ k, d = some k → k < a.tmps.size) :
   ∃ v w', (Builtin.append_ #[t, t] ty #[ux, uy]).run P w = .ok v w' ∧ ∃ c', Rel w0 mu c' bf (a.put d v) w' := by
 unfold zA at hv
 cases ht : T.elem t with
 | none => simp [ht, N.val] at hv
 | some p =>
   obtain ⟨r, bytes⟩ := p; simp only [ht] at hv
   cases RA : JE st y with
   | some q =>
     obtain ⟨b, k, B⟩ := q; rw [RA] at hv; simp only at hv; obtain ⟨gb, rfl, hB, SN, N7⟩ := BM RA
     cases SO : cm r B.xs with
     | none => rw [SO] at hv; simp [N.val] at hv
     | some ys =>
       rw [SO] at hv; exact DT hT h ht hx hy hB SN N7 SO hv hd
   | none =>
   rw [RA] at hv; simp only at hv; have tail : ∀ (xs : List (ar r)) (used : List (Nat × Nat)), (match y with
         | .one c => lT st r c fun ys => N.br (Nat.ble ((xs.length + ys.length) * bytes) lim)
             (bR (used.foldl (fun (s : St) (p : Nat × Nat) => bP s p.1 p.2 none) st) d { r := r, own := true, xs := xs ++ ys }) .fail
         | _ => N.fail).val = some bf →
       ∃ ys k s0, d = some k ∧ nth (used.foldl (fun (s : St) (p : Nat × Nat) => bP s p.1 p.2 none) st) k = some s0 ∧ (xs.length + ys.length) * bytes ≤ lim ∧ Rz w c.ok r uy ys ∧
         bf = m6 (fun s => { s with v := .one (.ref k 0 (s0.ag + 1) .full), aP := [some { r := r, own := true, xs := xs ++ ys }], ag := s0.ag + 1 }) (used.foldl (fun (s : St) (p : Nat × Nat) => bP s p.1 p.2 none) st) k := by
     intro xs used hv
     cases y with
     | agg _ => simp [N.val] at hv
     | nb _ => simp [N.val] at hv
     | one cy =>
       obtain ⟨ys, hv, hr⟩ := yE h hy hv; obtain ⟨hb, hv⟩ := fG hv; obtain ⟨k, s0, hk, jy, rP⟩ := mO hv; exact ⟨ys, k, s0, hk, jy, Nat.le_of_ble_eq_true hb, hr, rP⟩
   cases x with
   | agg _ => simp [N.val] at hv
   | nb _ => simp [N.val] at hv
   | one cx => cases cx with
     | ea =>
       obtain ⟨ys, k, s0, rfl, jy, hb, hr, rfl⟩ := tail [] [] hv; exact BK hT h ht jy (hd k rfl) hb hr (.inl ⟨hx, rfl⟩)
     | ref a' j g vw =>
       simp only at hv
       cases hA : bd st a' j g with
       | none => simp [hA, N.val] at hv
       | some A =>
         simp only [hA] at hv; obtain ⟨gG, hv⟩ := dJ hv; rw [Bool.and_eq_true] at gG; have zh := Md.oB.1 gG.2; have gG := gG.1
         cases hc : cm r A.xs with
         | none => simp [hc, N.val] at hv
         | some xs =>
           simp only [hc] at hv; obtain ⟨e, he⟩ := bD hc; subst e; simp only at he; subst he; obtain ⟨ys, k, s0, rfl, jy, hb, hr, rfl⟩ := tail (vw.app A.xs) [(a', j)] hv; obtain ⟨zk, zl⟩ := h.kill a' j; obtain ⟨sl, zP, LN, zQ⟩ := bA hA; have DN := h.aP a' j sl A zP zQ; have hs := hx.2.2 A hA; refine BK hT zk ht jy (hd k rfl) hb hr ?_
           cases hl : c.lc a' j with
           | nil =>
             unfold jx at hs; rw [hl] at hs; exact .inl ⟨hs.1, List.length_eq_zero_iff.1 hs.2⟩
           | «at» b off cap =>
             unfold jx at hs; rw [hl] at hs; obtain ⟨ad, n, rfl, hn, wM, DF⟩ := hs; unfold cu at DN; rw [hl] at DN; obtain ⟨ho, _, X7, fF⟩ := DN; rw [gG] at ho; exact .inr ⟨a', j, b, off, vw.lo, cap, n, ad, ho, zl, rfl, hn, wM, DF, X7, fun i x hi => (cg.sh zh).1 fF _ x (View.vo vw A.xs hi)⟩
     | _ => simp [N.val] at hv
theorem uG {w : World} {ok : Nat → Prop} : (r : RT) → (vs : List Value) → iV r vs → cZ w ok r vs (sv r)
 | .nil, vs, h => h
 | .cons (.int k) r, vs, ⟨l, h, h'⟩ => ⟨.int k 0, l, h, s8.2 rfl, uG r l h'⟩
 | .cons .bool r, vs, ⟨l, h, h'⟩ => ⟨.bool false, l, h, rj.2 rfl, uG r l h'⟩
 | .cons .str r, vs, ⟨l, h, h'⟩ => ⟨.string ByteArray.empty, l, h, uw.2 rfl, uG r l h'⟩
 | .cons (.sl q) r, vs, ⟨l, h, h'⟩ => ⟨.slice none 0 0, l, h, (oc _ _ _ _ _).2 (.inl ⟨rfl, rfl⟩), uG r l h'⟩
theorem bt.replicate {w : World} {ok : Nat → Prop} {r : RT} {vs : List Value} {x : ar r} (h : cZ w ok r vs x) : (n : Nat) → bt w ok r ((List.replicate n vs).flatten) (List.replicate n x)
 | 0 => rfl
 | n + 1 => ⟨vs, (List.replicate n vs).flatten, by simp [List.replicate_succ], h, bt.replicate h n⟩
theorem Ac (z : Array Value) (n W : Nat) (hz : z.size = W) (hW : 0 < W) : ((Array.range (n * W)).map (z[· % z.size]!)).toList = (List.replicate n z.toList).flatten := by
 subst hz
 induction n with
 | zero => simp
 | succ n ih =>
   have e1 : ((Array.range ((n + 1) * z.size)).map (z[· % z.size]!)).toList = ((Array.range (n * z.size)).map (z[· % z.size]!)).toList ++ z.toList := by
     apply List.ext_getElem
     · simp [Nat.add_mul]
     · intro k h1 h2; simp only [Array.getElem_toList, Array.getElem_map, Array.getElem_range]; rw [List.getElem_append]
       by_cases hk : k < n * z.size
       · rw [dif_pos (by simpa using hk)]; simp
       · rw [dif_neg (by simpa using hk)]; have zl : k < (n + 1) * z.size := by simpa using h1
         rw [Nat.add_mul, Nat.one_mul] at zl; have hm : k % z.size = k - n * z.size := by
           have : k = (k - n * z.size) + n * z.size := by omega
           rw [this, Nat.add_mul_mod_self_right, Nat.mod_eq_of_lt (by omega)]; omega
         have dC : k - n * z.size < z.size := by omega
         simp [hm, dC]
   rw [e1, ih]; rw [List.replicate_succ', List.flatten_append]; simp
theorem JX {P : Program} {T : la} (hT : gq P T) {w0 : World} {mu : Mu} {c : Cz} {st : St} {a : Act} {w : World} (h : Rel w0 mu c st a w)
   {d : Option Nat} {t : Nat} {x y : V} {ux uy : Value} (hx : eF c st w x ux) (hy : eF c st w y uy) {bf : St} (hv : (JF T st d t x y).val = some bf) (hd : ∀ k, d = some k → k < a.tmps.size) :
   ∃ v w', (Instr.makeSlice t ux uy).run P w = .ok v w' ∧ iN w w' ∧ ∃ c', Rel w0 mu c' bf (a.put d v) w' := by
 unfold JF at hv
 split at hv
 · rename_i r bytes n m ht; obtain ⟨Jn, hv⟩ := fG hv; obtain ⟨hn, hv⟩ := fG hv; obtain ⟨hb, hv⟩ := fG hv; obtain ⟨k, s0, rfl, jy, rfl⟩ := mO hv; have Jn := of_decide_eq_true Jn; have hn := of_decide_eq_true hn; have hb := Nat.le_of_ble_eq_true hb; subst Jn; obtain ⟨n, rfl⟩ := Int.eq_ofNat_of_zero_le hn; obtain ⟨e, i, z, hu, hi, mj, Bo, SL, GR, hz, HH⟩ := hT.elem t r bytes ht; have DS : z.cells.size = r.width := by have := iV.length r _ HH; simpa using this
   have e1 : ux = .int .i64 n := hx; have e2 : uy = .int .i64 n := hy; subst e1 e2; unfold lim at hb; simp only [Int.toNat_natCast] at hb; have Xg : n ≤ 35184372088832 := by
     have : n * 1 ≤ n * bytes := Nat.mul_le_mul_left _ GR; omega
   have acO : IntKind.i64.wrap (n : Int) = n := by
     have := IntKind.wrap_i64 (n : Int); rw [this]; omega
   have rh : (Instr.makeSlice t (.int .i64 n) (.int .i64 n)).run P w =
       .ok (.slice (some ⟨w.heap.size, 0, none⟩) n n) (w.alloc (.cells ((Array.range (n * r.width)).map (z.cells[· % z.cells.size]!)) e (0, 0))) := by
     have := run_make (P := P) w t e i z hu hi hz .i64 .i64 n n (by omega) (Int.le_refl _) (by
       have h2 : ((i.bytes * n : Nat) : Int) ≤ 281474976710656 := by rw [SL, Nat.mul_comm]; omega
       rwa [Int.natCast_mul] at h2) (by omega)
     simpa [madeCells, mj] using this
   refine ⟨_, _, rh, iN.alloc _ _, ?_⟩
   cases RA : T.dp t with
   | true =>
     have := h.CJ (r := r) (P := fun _ _ => False) (g := fun _ => []) (xs := List.replicate n (sv r)) (cur := (Array.range (n * r.width)).map (z.cells[· % z.cells.size]!)) (ty := e) (cap := n) jy (hd k rfl) (by simp) (by simp) (dk.replicate (fun i => uE r [i] 0 _ HH) n 0) (fun _ _ _ h => h.elim) (by
       rw [← Ac z.cells n r.width DS Bo, List.take_length])
     simpa using this
   | false =>
   have vO : bt w c.ok r ((List.replicate n z.cells.toList).flatten) (List.replicate n (sv r)) := bt.replicate (uG r _ HH) n; have := h.fresh (r := r) (xs := List.replicate n (sv r)) (cur := (Array.range (n * r.width)).map (z.cells[· % z.cells.size]!)) (ty := e) (cap := n) jy (hd k rfl) (by simp) (by simp) vO (by
     rw [← Ac z.cells n r.width DS Bo, List.take_length])
   simpa using this
 · simp [N.val] at hv
end Go.TM
namespace Go.TM
open Go Go.RowKit
theorem wW (off : Nat) : (l : List Value) → (k : Nat) → (cells : Array Value) → off + k + l.length ≤ cells.size →
   ((l.zipIdx k).foldl (fun cs (p : Value × Nat) => cs.setIfInBounds (off + p.2) p.1) cells).toList = ck cells.toList (off + k) l
 | [], k, cells, _ => by simp [ck]
 | v :: l, k, cells, h => by
   simp only [List.zipIdx_cons, List.foldl_cons, List.length_cons] at h ⊢; rw [wW off l (k + 1) _ (by simp; omega)]; rw [Array.toList_setIfInBounds]; apply List.ext_getElem?; intro q; rw [kE (by simp; omega), kE (by simp; omega), List.getElem?_set]; simp only [List.length_cons]
   by_cases h1 : off + (k + 1) ≤ q ∧ q < off + (k + 1) + l.length
   · rw [if_pos h1, if_pos (by omega)]; rw [show q - (off + k) = (q - (off + (k + 1))) + 1 by omega, List.getElem?_cons_succ]
   · rw [if_neg h1]
     by_cases h2 : off + k = q
     · subst h2; rw [if_pos rfl, if_pos (by simp; omega), if_pos (by omega)]; simp
     · rw [if_neg h2, if_neg (by omega)]
theorem xQ {place : Nat → Option (Nat × Nat)} {cells : Array Value} {i : Nat} {v : Value} {rest : List (Nat × Value)} {off size : Nat} (hp : place i = some (off, size)) (hv : v.cells.size = size) (hle : off + size ≤ cells.size) :
   Instr.fill place cells ((i, v) :: rest) = Instr.fill place (ck cells.toList off v.cells.toList).toArray rest := by
 have hf := wW off v.cells.toList 0 cells (by simp; omega); have e : (v.cells.zipIdx.foldl (fun cs (p : Value × Nat) => cs.setIfInBounds (off + p.2) p.1) cells) = (ck cells.toList off v.cells.toList).toArray := by
   apply Array.ext'; rw [← Array.foldl_toList, Array.toList_zipIdx]; simpa using hf
 conv => lhs; unfold Instr.fill
 simp only [hp]; rw [if_neg (by simp; omega)]; exact congrArg (fun cs => Instr.fill place cs rest) e
def pD (c : Cz) (st : St) (w : World) (ps : List (Nat × V)) (us : List (Nat × Value)) : Prop :=
 ps.length = us.length ∧ ∀ (i : Nat) p u, ps[i]? = some p → us[i]? = some u → p.1 = u.1 ∧ eF c st w p.2 u.2
theorem pD.cons {c : Cz} {st : St} {w : World} {p : Nat × V} {u : Nat × Value} {ps : List (Nat × V)} {us : List (Nat × Value)} (h : pD c st w (p :: ps) (u :: us)) :
   (p.1 = u.1 ∧ eF c st w p.2 u.2) ∧ pD c st w ps us :=
 ⟨h.2 0 p u rfl rfl, by have := h.1; simpa using this, fun i a b ha hb => h.2 (i + 1) a b (by simpa using ha) (by simpa using hb)⟩
theorem wX {w0 : World} {mu : Mu} {c : Cz} {st : St} {a : Act} {w : World} (h : Rel w0 mu c st a w) {r : RT} (hW : 0 < r.width) : (ps : List (Nat × V)) → (us : List (Nat × Value)) → pD c st w ps us →
   (i : Nat) → (k : List (ar r) → List (Nat × Nat) → N) → {bf : St} → (vm st r i ps k).val = some bf → (cells : Array Value) → cells.size = (i + ps.length) * r.width →
   ∃ xs m, (k xs m).val = some bf ∧ xs.length = ps.length ∧ (∀ p ∈ m, ∃ g A, bd st p.1 p.2 g = some A) ∧
     ∃ vs : List Value, vs.length = ps.length * r.width ∧ Instr.fill (fun i => some (i * r.width, r.width)) cells us = some (cells.toList.take (i * r.width) ++ vs).toArray ∧
     ∀ ok : Nat → Prop, (∀ b, c.ok b → ok b) → (∀ p ∈ m, ∀ b, c.own b = some (.sp p.1 p.2) → ok b) → bt w ok r vs xs
 | [], us, hp, i, k, bf, hv, cells, mj => by
   have : us = [] := by have := hp.1; simp at this; exact List.length_eq_zero_iff.1 this.symm
   subst this; refine ⟨[], [], hv, rfl, fun p hp => by simp at hp, [], by simp, ?_, fun _ _ _ => rfl⟩; simp only [Instr.fill, List.append_nil]; simp at mj; rw [List.take_of_length_le (by simp; omega)]
 | (p, v) :: ps, us, hp, i, k, bf, hv, cells, mj => by
   cases us with
   | nil => have := hp.1; simp at this
   | cons u us =>
     obtain ⟨⟨Nh, RB⟩, m9⟩ := hp.cons; simp only [vm] at hv; obtain ⟨hc, hv⟩ := dJ hv; rw [Bool.and_eq_true] at hc; have N8 := Nat.eq_of_beq_eq_true hc.2; obtain ⟨sB, _⟩ := RB.cells hc.1; obtain ⟨x, m1, h1, h2, h3⟩ := wO h r v.cells _ sB _ hv; have hlen : u.2.cells.toList.length = r.width := by
       have := h3 (fun _ => True) (fun _ _ => trivial) (fun _ _ _ _ => trivial); exact cZ.length r _ x this
     simp only [List.length_cons] at mj; have X8 : (i + (ps.length + 1)) * r.width = i * r.width + r.width + ps.length * r.width := by rw [Nat.add_mul, Nat.add_mul]; omega
     have hle : i * r.width + r.width ≤ cells.size := by omega
     have DU := xQ (place := fun i => some (i * r.width, r.width)) (cells := cells) (i := i) (v := u.2) (rest := us) rfl (by simpa using hlen) hle; obtain ⟨xs, m2, g1, g2, g3, vs, g4, g5, g6⟩ := wX h hW ps us m9 (i + 1) _ h1 (ck cells.toList (i * r.width) u.2.cells.toList).toArray (by
       rw [List.size_toArray, gK (by simp at hlen ⊢; omega)]; simp; rw [mj]; congr 1; omega)
     refine ⟨x :: xs, m1 ++ m2, g1, by simp [g2], fun q hq => ?_, u.2.cells.toList ++ vs, by simp at hlen ⊢; rw [hlen, g4, Nat.add_mul]; omega, ?_, fun ok ho hm => ⟨_, vs, rfl, h3 ok ho (fun q hq => hm q (by simp [hq])), g6 ok ho (fun q hq => hm q (by simp [hq]))⟩⟩
     · rcases List.mem_append.1 hq with hq | hq
       · exact h2 q hq
       · exact g3 q hq
     · have e : (u : Nat × Value) = (i, u.2) := by rw [← N8]; simp at Nh; rw [Nh]
       rw [e, DU, g5]
       congr 2
       rw [← List.append_assoc]
       congr 1
       show List.take ((i + 1) * r.width) (ck cells.toList (i * r.width) u.2.cells.toList) = _; unfold ck; rw [Nat.add_mul, Nat.one_mul]; rw [List.take_append_of_le_length (by simp at hlen ⊢; omega)]; rw [List.take_of_length_le (by simp at hlen ⊢; omega)]
theorem Ad {P : Program} {T : la} (hT : gq P T) {w0 : World} {mu : Mu} {c : Cz} {st : St} {a : Act} {w : World} (h : Rel w0 mu c st a w)
   {d : Option Nat} {t len : Nat} {ps : List (Nat × V)} {us : Array (Nat × Value)} (hp : pD c st w ps us.toList) {bf : St} (hv : (ur T st d t len ps).val = some bf) (hd : ∀ k, d = some k → k < a.tmps.size) :
   ∃ v w', (Instr.buildSlice t len us).run P w = .ok v w' ∧ iN w w' ∧ ∃ c', Rel w0 mu c' bf (a.put d v) w' := by
 unfold ur at hv
 cases ht : T.elem t with
 | none => simp [ht, N.val] at hv
 | some p =>
   obtain ⟨r, bytes⟩ := p; simp only [ht] at hv; obtain ⟨hc, hv⟩ := dJ hv; rw [Bool.and_eq_true] at hc; have hlen := Nat.eq_of_beq_eq_true hc.1; have X9 := Nat.le_of_ble_eq_true hc.2; obtain ⟨e, i, z, hu, hi, mj, Bo, SL, GR, hz, HH⟩ := hT.elem t r bytes ht; have DS : z.cells.size = r.width := by have := iV.length r _ HH; simpa using this
   cases JY : (bif T.dp t then Fq st r ps else none) with
   | some pq =>
     obtain ⟨x1, m⟩ := pq; rw [JY] at hv; simp only at hv; obtain ⟨hdi, hv⟩ := dJ hv; obtain ⟨k, s0, rfl, jy, rfl⟩ := mO hv; obtain ⟨_, JY⟩ := aI JY; unfold Fq at JY
     split at JY
     · -- no row
       simp only [Option.some.injEq, Prod.mk.injEq] at JY; obtain ⟨rfl, rfl⟩ := JY; have GP : len = 0 := by simpa using hlen.symm
       subst GP; have FE : us = #[] := by have := hp.1; simp at this; exact Array.eq_empty_of_size_eq_zero this.symm
       subst FE; have Ae : (Instr.buildSlice t 0 #[]).run P w = .ok (.slice (some ⟨w.heap.size, 0, none⟩) 0 0) (w.alloc (.cells #[] e (0, 0))) := by
         simp [Instr.buildSlice, run_underlying hu, sizeOf, typeInfo, hi, Instr.fill, newRow, show Array.range 0 = #[] from rfl]
       have Jo := h.CJ (r := r) (P := fun _ _ => False) (g := fun _ => []) (xs := []) (cur := #[]) (ty := e) (cap := 0) jy (hd k rfl) (by simp) (by simp) (vs := []) rfl (fun _ _ _ h => h.elim) rfl; exact ⟨_, _, Ae, iN.alloc _ _, Jo⟩
     · rename_i i0 v0 _; obtain ⟨Ya, HJ⟩ := aI JY; clear JY; rw [Bool.and_eq_true] at Ya; obtain ⟨x2, Yb, DV⟩ : ∃ x2, hJ st r v0.cells = some (x2, m) ∧ x1 = [x2] := by
         cases hq : hJ st r v0.cells with
         | none => rw [hq] at HJ; cases HJ
         | some q =>
           rw [hq] at HJ; simp only [Option.some.injEq, Prod.mk.injEq] at HJ; exact ⟨q.1, by rw [← HJ.2], HJ.1.symm⟩
       subst DV; have SP := Nat.eq_of_beq_eq_true Ya.2; subst SP; obtain ⟨⟨i1, u1⟩, FE⟩ : ∃ u1, us.toList = [u1] := by
         have := hp.1
         match hl : us.toList with
         | [] => rw [hl] at this; simp at this
         | [u1] => exact ⟨u1, rfl⟩
         | _ :: _ :: _ => rw [hl] at this; simp at this
       obtain ⟨Nh, RB⟩ := hp.2 0 (0, v0) (i1, u1) rfl (by rw [FE]; rfl); simp only at Nh RB; subst Nh; obtain ⟨sB, Bn⟩ := RB.cells Ya.1; obtain ⟨hml, hmo, G, hG⟩ := wV h r v0.cells _ sB Yb; have FB := nj hdi; obtain ⟨zk, zl, _, _, _⟩ := lf (dX m) h; have hR := zk.iW zl k 0; have SQ : len = 1 := by simpa using hlen.symm
       subst SQ; have hD := hG (fun p k => (∃ n ∈ dX m, c.own k = some (.sp n.1 n.2)) ∧ ∀ (col : Nat) (n : Nat × Nat), m[col]? = some (some n) → c.own k = some (.sp n.1 n.2) → p = [0] ++ [col] ++ G col k) [0] 0 (fun col n k hc hk => ⟨⟨n, kF hc, hk⟩, fun X0 n' h1 h2 => by
         rw [hk] at h2; injection h2 with h2; injection h2 with q1 q2; have : n = n' := Prod.ext q1 q2; subst this; rw [th FB h1 hc, Nat.zero_add]⟩)
       have Ff := dD.length r _ _ _ _ hD; obtain ⟨g', _, p2⟩ := xP (c := c) FB G (fun _ => []) [0] .out (fun n _ => by simp); have DU := xQ (place := fun i => some (i * r.width, r.width)) (cells := (Array.range (1 * r.width)).map (z.cells[· % z.cells.size]!)) (i := 0) (v := u1) (rest := []) rfl (by simpa using Ff) (by simp); have Ae : (Instr.buildSlice t 1 us).run P w = .ok (.slice (some ⟨w.heap.size, 0, none⟩) 1 1) (w.alloc (.cells u1.cells e (0, 0))) := by
         refine run_buildSlice (P := P) w t e 1 us u1.cells i z hu hi hz (by rw [mj]; omega) (by rw [mj]; intro h; rcases Nat.mul_eq_zero.1 h with h | h <;> omega) ?_; rw [FE, mj, DU]; simp only [Instr.fill]
         congr 1
         apply Array.ext'; show ck _ _ _ = _; unfold ck; rw [List.drop_eq_nil_of_le (by simp at Ff ⊢; omega)]; simp
       have Jo := hR.CJ (r := r) (xs := [x2]) (cur := u1.cells) (ty := e) (cap := 1) (g := g') jy (hd k rfl) (by simp) (by simp at Ff ⊢; omega) (vs := u1.cells.toList) ⟨_, [], by simp, hD, rfl⟩ (fun i q k hk => by
         obtain ⟨⟨n, hn, zk⟩, zl⟩ := hk; obtain ⟨col, hc⟩ := v8 hn; refine ⟨Cz.ni hn zk, ?_⟩; rw [p2 col n k hc zk]; exact (zl col n hc zk).symm) (List.take_length)
       exact ⟨_, _, Ae, iN.alloc _ _, Jo⟩
     · cases JY
   | none =>
   rw [JY] at hv; simp only at hv; obtain ⟨xs, m, h1, h2, h3, vs, h4, h5, h6⟩ := wX h Bo ps us.toList hp 0 _ hv ((Array.range (len * r.width)).map (z.cells[· % z.cells.size]!)) (by simp [hlen]); obtain ⟨k, s0, rfl, jy, rfl⟩ := mO h1; have vO : bt w (c.drop m).ok r vs xs := h6 _ (fun b hb => Cz.wN m c b hb) (fun p hp k hk => Cz.zB m c k hk hp); have hxl : xs.length = len := by rw [h2, hlen]
   have Ae : (Instr.buildSlice t len us).run P w = .ok (.slice (some ⟨w.heap.size, 0, none⟩) len len) (w.alloc (.cells vs.toArray e (0, 0))) := by
     simp only [Nat.zero_mul, List.take_zero, List.nil_append] at h5
     by_cases h0 : len = 0
     · subst h0; have Mb : ps = [] := List.length_eq_zero_iff.1 hlen; subst Mb; have FE : us = #[] := by have := hp.1; simp at this; exact Array.eq_empty_of_size_eq_zero this.symm
       subst FE; have wT : vs = [] := by simp at h4; exact h4
       subst wT; simp [Instr.buildSlice, run_underlying hu, sizeOf, typeInfo, hi, Instr.fill, newRow, show Array.range 0 = #[] from rfl]
     · refine run_buildSlice (P := P) w t e len us vs.toArray i z hu hi hz (by rw [mj]; omega) (by rw [mj]; intro h; rcases Nat.mul_eq_zero.1 h with h | h <;> omega) ?_; rw [mj]; exact h5
   have Jo := (h.freeze m).fresh (r := r) (xs := xs) (cur := vs.toArray) (ty := e) (cap := len) jy (hd k rfl) (by omega) (by simp [h4, hlen]) vO (by simp); rw [hxl] at Jo; exact ⟨_, _, Ae, iN.alloc _ _, Jo⟩
theorem iV.rel {c : Cz} {st : St} {w : World} : (r : RT) → (vs : List Value) → iV r vs → fo c st w ((eb r (sv r)).map fun | .shr _ _ => .ea | c => c) vs
 | .nil, vs, h => by simp only [iV] at h; subst h; exact ⟨rfl, fun i x v hx => by simp [eb] at hx⟩
 | .cons t r, vs, h => by
   have key : ∃ v l x, vs = v :: l ∧ iV r l ∧ ((fun | .shr _ _ => .ea | c => c : CV → CV) (Fm t (Fl t))) = x ∧ jG c st w x v := by
     cases t with
     | int k => obtain ⟨l, h, h'⟩ := h; exact ⟨_, l, _, h, h', rfl, rfl⟩
     | bool => obtain ⟨l, h, h'⟩ := h; exact ⟨_, l, _, h, h', rfl, rfl⟩
     | str => obtain ⟨l, h, h'⟩ := h; exact ⟨_, l, _, h, h', rfl, rfl⟩
     | sl q => obtain ⟨l, h, h'⟩ := h; exact ⟨_, l, _, h, h', rfl, rfl⟩
   obtain ⟨v, l, x, rfl, hl, hx, hr⟩ := key; obtain ⟨h1, h2⟩ := iV.rel (c := c) (st := st) (w := w) r l hl; refine ⟨by simp [eb] at h1 ⊢; exact h1, fun i y u hy hu => ?_⟩
   cases i with
   | zero =>
     simp [eb, sv] at hy hu; subst hu; rw [← hy]; have : (match Fm t (Fl t) with | .shr _ _ => CV.ea | c => c) = x := hx; rw [this]; exact hr
   | succ i => exact h2 i y u (by simpa [eb, sv] using hy) (by simpa using hu)
theorem uH {c : Cz} {st : St} {w : World} {r : RT} {vs : List Value} (h : iV r vs) : fo c st w (oC r) vs := iV.rel r vs h
theorem wY {P : Program} {T : la} {c : Cz} {st : St} {w : World} {t : Nat} {ch : List (Nat × Nat)} (Mc : ∀ f o s, T.off t f = some o → T.Sz t f = some s → ch[f]? = some (o, s)) :
   (ps : List (Nat × V)) → (us : List (Nat × Value)) → pD c st w ps us → (cs l : List CV) → (cells : Array Value) → fo c st w cs cells.toList → oE T t cs ps = some l →
   ∃ sY, Instr.fill (ch.toArray[·]?) cells us = some sY ∧ fo c st w l sY.toList
 | [], us, hp, cs, l, cells, hl, h => by
   have : us = [] := by have := hp.1; simp at this; exact List.length_eq_zero_iff.1 this.symm
   subst this; simp only [oE, Option.some.injEq] at h; subst h; exact ⟨cells, rfl, hl⟩
 | (f, v) :: ps, us, hp, cs, l, cells, hl, h => by
   cases us with
   | nil => have := hp.1; simp at this
   | cons u us =>
     obtain ⟨⟨Nh, RB⟩, m9⟩ := hp.cons; simp only [oE] at h
     cases ho : T.off t f with
     | none => simp [ho] at h
     | some o =>
       cases hs : T.Sz t f with
       | none => simp [ho, hs] at h
       | some s =>
         simp only [ho, hs] at h; obtain ⟨hc, h⟩ := aI h; rw [Bool.and_eq_true] at hc; obtain ⟨sB, _⟩ := RB.cells hc.1; have hlen : v.cells.length = s := Nat.eq_of_beq_eq_true hc.2
         cases Yc : putCells cs o v.cells with
         | none => simp [Yc] at h
         | some nc =>
           simp only [Yc] at h; obtain ⟨hle, rfl⟩ := vM Yc; have h1 := hl.1; have h2 := sB.1; have DU := xQ (place := (ch.toArray[·]?)) (cells := cells) (i := f) (v := u.2) (rest := us) (off := o) (size := s) (by simpa using Mc f o s ho hs) (by simp at h2; omega) (by simp at h1 h2; omega); obtain ⟨sY, g1, g2⟩ := wY (P := P) Mc ps us m9 _ l (ck cells.toList o u.2.cells.toList).toArray (by simpa using hl.ck sB o hle) h; refine ⟨sY, ?_, g2⟩; have e : (u : Nat × Value) = (f, u.2) := by simp at Nh; rw [Nh]
           rw [e, DU]; exact g1
theorem JZ {P : Program} {T : la} (hT : gq P T) {w0 : World} {mu : Mu} {c : Cz} {st : St} {a : Act} {w : World} (h : Rel w0 mu c st a w)
   {d : Option Nat} {t : Nat} {r : RT} {ps : List (Nat × V)} {us : Array (Nat × Value)} {l : List CV} (hr : T.row t = some r) (hg : T.agg t = true) (hp : pD c st w ps us.toList)
   (hf : oE T t (oC r) ps = some l) (hd : ∀ k, d = some k → k < a.tmps.size) :
   ∃ v, (∀ w' : World, (Instr.build t us).run P w' = .ok v w') ∧ Rel w0 mu c (bj st d (.agg l)) (a.put d v) w := by
 obtain ⟨i, z, hi, hz, HH⟩ := hT.row t r hr; obtain ⟨fs, ch, hu, Mc, hpo⟩ := hT.bld t hg; obtain ⟨sY, g1, g2⟩ := wY (P := P) (c := c) (st := st) (w := w) hpo ps us.toList hp (oC r) l z.cells (uH HH) hf; refine ⟨.agg sY, fun w' => run_build w' t us sY ?_, h.bj ⟨sY, rfl, g2⟩ hd⟩; unfold Program.built; simp only [hi, hu, hz, Mc]; exact g1
end Go.TM
namespace Go.TM
open Go Go.RowKit
theorem J0 {P : Program} {w : World} {op : BinOp} {t : TypeId} {k : IntKind} {a b : Int} {r : Bool} (h : JB op a b = some r) :
   (binOp op t (.int k a) (.int k b)).run P w = .ok (.bool r) w := by
 cases op <;> simp only [JB, Option.some.injEq, reduceCtorEq] at h <;> subst h <;> unfold binOp Op.intCmp <;> simp <;> rfl
theorem FF {P : Program} {w : World} {op : BinOp} {t : TypeId} {k : IntKind} {a b n : Int} (h : zJ op k a b = some n) :
   (binOp op t (.int k a) (.int k b)).run P w = .ok (.int k n) w := by
 cases op <;> simp [zJ] at h <;> subst h <;> simp [binOp, Op.intArith, Op.intBits]
theorem J1 {P : Program} {w : World} {op : BinOp} {t : TypeId} {k : IntKind} {a b n : Int} (h : JC op k a b = some n) (hb : b ≠ 0) :
   (binOp op t (.int k a) (.int k b)).run P w = .ok (.int k n) w := by
 cases op <;> simp [JC] at h <;> subst h <;> simp [binOp, Op.intDiv, hb]
theorem FG {P : Program} {w : World} {op : BinOp} {t : TypeId} {k l : IntKind} {a b n : Int} (h : zK op k a b.toNat = some n) (hb : 0 ≤ b) :
   (binOp op t (.int k a) (.int l b)).run P w = .ok (.int k n) w := by
 have oG : ¬ b < 0 := by omega
 cases op <;> simp [zK] at h <;> subst h <;> simp [binOp, Op.shift, oG]
theorem lV {P : Program} {w : World} (op : BinOp) (t : TypeId) (x y : Operand) (a b : Value) (h : ¬ (a = .nilIface ∧ b = .nilIface)) (h2 : ∀ l m, ¬ (a = .agg l ∧ b = .agg m)) :
   (eqGuard op t x y a b).run P w = .ok () w := by
 unfold eqGuard
 cases op <;> cases a <;> cases b <;> simp_all
theorem Me {P : Program} {T : la} (hT : gq P T) {w0 : World} {mu : Mu} {c : Cz} {st : St} {a : Act} {w : World} (h : Rel w0 mu c st a w) (hE : ∀ t, T.eq t = true → ∀ (l m : List CV) (us vs : Array Value) (b : Bool) (op : BinOp) (ox oy : Operand), T.fits t l = true → nf l m = some b →
     fo c st w l us.toList → fo c st w m vs.toList → ∀ w' : World, (eqGuard op t ox oy (.agg us) (.agg vs)).run P w' = .ok () w' ∧ (Op.equal t (.agg us) (.agg vs)).run P w' = .ok b w')
   {d : Option Nat} {t : Nat} {op : BinOp} {ox oy : Operand} {x y : V} {ux uy : Value} (hx : eF c st w x ux) (hy : eF c st w y uy) {bf : St} (hv : (uc T st d op t x y).val = some bf) (hd : ∀ k, d = some k → k < a.tmps.size) :
   ∃ v, (∀ w' : World, (do eqGuard op t ox oy ux uy; binOp op t ux uy : Sem Value).run P w' = .ok v w') ∧ Rel w0 mu c bf (a.put d v) w := by
 have fin : ∀ (cv : CV) (v : Value), jG c st w cv v → (N.done (bj st d (.one cv))).val = some bf → (∀ w' : World, (eqGuard op t ox oy ux uy).run P w' = .ok () w') → (∀ w' : World, (binOp op t ux uy).run P w' = .ok v w') →
     ∃ v, (∀ w' : World, (do eqGuard op t ox oy ux uy; binOp op t ux uy : Sem Value).run P w' = .ok v w') ∧ Rel w0 mu c bf (a.put d v) w := by
   intro cv v hr rP hg hb; simp only [N.val, Option.some.injEq] at rP; subst rP; refine ⟨v, fun w' => ?_, h.bj hr hd⟩; simp [Sem.run_bind, hg, hb]
 cases x with
 | nb _ => simp [uc, N.val] at hv
 | agg l => cases y with
   | nb _ => simp [uc, N.val] at hv
   | one _ => simp [uc, N.val] at hv
   | agg m =>
     obtain ⟨us, rfl, hl⟩ := hx; obtain ⟨vs, rfl, hm⟩ := hy; simp only [uc] at hv; obtain ⟨ht, hv⟩ := dJ hv; rw [Bool.and_eq_true] at ht; obtain ⟨ht, sB⟩ := ht
     cases hc : nf l m with
     | none => cases op <;> simp [hc, N.val] at hv
     | some b =>
       have g := hE t ht l m us vs b op ox oy sB hc hl hm
       cases op <;> simp only [hc] at hv <;> try (simp [N.val] at hv; done)
       · exact fin (.bool b) (.bool b) rfl hv (fun w' => (g w').1) (fun w' => by simp [binOp, Sem.run_bind, (g w').2])
       · exact fin (.bool (!b)) (.bool (!b)) rfl hv (fun w' => (g w').1) (fun w' => by simp [binOp, Sem.run_bind, (g w').2])
 | one cx => cases y with
   | nb _ => cases cx <;> simp [uc, N.val] at hv
   | agg _ => cases cx <;> simp [uc, N.val] at hv
   | one cy =>
     cases cx <;> cases cy <;> try (simp [uc, N.val] at hv; done)
     · rename_i k p l q; have e1 : ux = .int k p := hx; have e2 : uy = .int l q := hy; subst e1 e2; have hg := fun w' => lV (P := P) (w := w') op t ox oy (.int k p) (.int l q) (by simp) (by simp)
       simp only [uc] at hv
       by_cases hs : op = .shl ∨ op = .shr
       · have qc : (match zK op k p q.toNat with | some n => N.br (decide (0 ≤ q)) (.done (bj st d (.one (.int k n)))) .fail | none => .fail).val = some bf := by
           rcases hs with rfl | rfl <;> exact hv
         cases Yd : zK op k p q.toNat with
         | none => simp [Yd, N.val] at qc
         | some n =>
           simp only [Yd] at qc; obtain ⟨hq, qc⟩ := fG qc; exact fin (.int k n) (.int k n) rfl qc hg (fun _ => FG Yd (of_decide_eq_true hq))
       · have qc : (if k = l then (match JB op p q with
             | some t => N.done (bj st d (.one (.bool t)))
             | none => match zJ op k p q with
               | some n => .done (bj st d (.one (.int k n)))
               | none => match JC op k p q with
                 | some n => .br (decide (q = 0)) .fail (.done (bj st d (.one (.int k n))))
                 | none => .fail) else .fail).val = some bf := by
           cases op <;> first | exact hv | exact absurd (.inl rfl) hs | exact absurd (.inr rfl) hs
         by_cases hk : k = l
         · subst hk; rw [if_pos rfl] at qc
           cases hc : JB op p q with
           | some r => simp only [hc] at qc; exact fin (.bool r) (.bool r) rfl qc hg (fun _ => J0 hc)
           | none =>
             simp only [hc] at qc
             cases ha : zJ op k p q with
             | some n => simp only [ha] at qc; exact fin (.int k n) (.int k n) rfl qc hg (fun _ => FF ha)
             | none =>
               simp only [ha] at qc
               cases SR : JC op k p q with
               | none => simp [SR, N.val] at qc
               | some n =>
                 simp only [SR] at qc; rcases uF qc with ⟨_, qc⟩ | ⟨hq, qc⟩
                 · simp [N.val] at qc
                 · exact fin (.int k n) (.int k n) rfl qc hg (fun _ => J1 SR (of_decide_eq_false hq))
         · rw [if_neg hk] at qc; simp [N.val] at qc
     · rename_i p q; have e1 : ux = .bool p := hx; have e2 : uy = .bool q := hy; subst e1 e2; have hg := fun w' => lV (P := P) (w := w') op t ox oy (.bool p) (.bool q) (by simp) (by simp)
       have hq : ∀ u, P.underlying t = some u → u = .bool → ∀ w' : World, (Op.equal t (.bool p) (.bool q)).run P w' = .ok (p == q) w' := by
         rintro u hu rfl w'
         have e : Op.equal t (.bool p) (.bool q) = Op.equalIn ((Op.maxDepth - 1) + 1) t (.bool p) (.bool q) := rfl; rw [e]; simp only [Op.equalIn]; simp [run_underlying hu]
       cases hk : T.kind t with
       | none => cases op <;> simp [uc, hk, N.val] at hv
       | some ty => cases ty with
         | int _ => cases op <;> simp [uc, hk, N.val] at hv
         | str => cases op <;> simp [uc, hk, N.val] at hv
         | sl _ => cases op <;> simp [uc, hk, N.val] at hv
         | bool =>
           obtain ⟨u, hu, hud⟩ := hT.kind t .bool hk; have := hq u hu hud
           cases op <;> simp only [uc, hk] at hv <;> try (simp [N.val] at hv; done)
           · exact fin (.bool (p == q)) (.bool (p == q)) rfl hv hg (fun w' => by simp [binOp, this w'])
           · exact fin (.bool (!(p == q))) (.bool (!(p == q))) rfl hv hg (fun w' => by simp [binOp, this w'])
     · rename_i p q; have e1 : ux = .string p := hx; have e2 : uy = .string q := hy; subst e1 e2; have hg := fun w' => lV (P := P) (w := w') op t ox oy (.string p) (.string q) (by simp) (by simp)
       simp only [uc] at hv
       cases op <;> simp only at hv <;> try (simp [N.val] at hv; done)
       · obtain ⟨hb, hv⟩ := fG hv; have hb := Nat.le_of_ble_eq_true hb; unfold lim at hb; refine fin (.str (p ++ q)) (.string (p ++ q)) rfl hv hg (fun w' => ?_); have : ¬ ((p.size + q.size : Nat) : Int) > IntKind.i64.max := by
           have : IntKind.i64.max = 9223372036854775807 := by decide
           omega
         simp only [binOp, Op.stringOp]; rw [if_neg this]; rfl
       · exact fin (.bool (pC p q)) (.bool (pC p q)) rfl hv hg (fun w' => by simp [binOp, Op.stringOp, pC])
       · exact fin (.bool (!pC p q)) (.bool (!pC p q)) rfl hv hg (fun w' => by simp [binOp, Op.stringOp, pC])
     · have e1 : ux = .slice none 0 0 := hx; have e2 : uy = .slice none 0 0 := hy; subst e1 e2; have hg := fun w' => lV (P := P) (w := w') op t ox oy (.slice none 0 0) (.slice none 0 0) (by simp) (by simp)
       simp only [uc] at hv
       cases he : T.elem t with
       | none => cases op <;> simp [he, N.val] at hv
       | some p =>
         obtain ⟨e, i, z, hu, _⟩ := hT.elem t p.1 p.2 he; have hq := fun w' => run_equal_slice_nil (P := P) w' t e none 0 0 hu
         cases op <;> simp only [he] at hv <;> try (simp [N.val] at hv; done)
         · exact fin (.bool true) (.bool true) rfl hv hg (fun w' => by simp [binOp, hq w'])
         · exact fin (.bool false) (.bool false) rfl hv hg (fun w' => by simp [binOp, hq w'])
     · rename_i r xs; have e2 : uy = .slice none 0 0 := hy; subst e2; obtain ⟨h1, h2⟩ := hx; rcases (oc _ _ _ _ _).1 h1 with ⟨h3, _⟩ | ⟨a0, cap, h3, _⟩
       · exact absurd h3 h2
       · subst h3; have hg := fun w' => lV (P := P) (w := w') op t ox oy (.slice (some a0) (List.length xs) cap) (.slice none 0 0) (by simp) (by simp)
         simp only [uc] at hv
         cases he : T.elem t with
         | none => cases op <;> simp [he, N.val] at hv
         | some p =>
           obtain ⟨e, i, z, hu, _⟩ := hT.elem t p.1 p.2 he; have hq := fun w' => run_equal_slice_nil (P := P) w' t e (some a0) (List.length xs) cap hu
           cases op <;> simp only [he] at hv <;> try (simp [N.val] at hv; done)
           · exact fin (.bool false) (.bool false) rfl hv hg (fun w' => by simp [binOp, hq w'])
           · exact fin (.bool true) (.bool true) rfl hv hg (fun w' => by simp [binOp, hq w'])
theorem GU {P : Program} {T : la} (hT : gq P T) {t : Nat} (h : T.kind t = some .str) : P.underlying t = some .string := by
 obtain ⟨u, hu, hd⟩ := hT.kind t .str h; simp only [descOf] at hd; rw [hu, hd]
theorem DW {w0 : World} {mu : Mu} {c : Cz} {st : St} {a : Act} {w : World} (_h : Rel w0 mu c st a w) {a' j g : Nat} {vw : View} {A : ig} {u : Value} (hA : bd st a' j g = some A)
   (hu : jG c st w (.ref a' j g vw) u) : ∃ ad k, u = .slice ad (vw.app A.xs).length k := by
 have hs := hu.2.2 A hA
 cases hl : c.lc a' j with
 | nil => unfold jx at hs; rw [hl] at hs; exact ⟨none, 0, by rw [hs.2]; exact hs.1⟩
 | «at» b off cap => unfold jx at hs; rw [hl] at hs; obtain ⟨ad, k, h1, _⟩ := hs; exact ⟨some ad, k, h1⟩
theorem Mf {P : Program} {T : la} (hT : gq P T) {w0 : World} {mu : Mu} {c : Cz} {st : St} {a : Act} {w : World} (h : Rel w0 mu c st a w)
   {d : Option Nat} {t ty : Nat} {x : V} {ux : Value} (hx : eF c st w x ux) {bf : St} (hv : (Cw T st d t x).val = some bf) (hd : ∀ k, d = some k → k < a.tmps.size) :
   ∃ v, (∀ w' : World, (Builtin.len_ #[t] ty #[ux]).run P w' = .ok v w') ∧ Rel w0 mu c bf (a.put d v) w := by
 have sl : ∀ (n : Nat) (ad : Option Addr) (k : Nat), (T.elem t).isSome = true → ux = .slice ad n k → (N.done (bj st d (.one (.int .i64 n)))).val = some bf →
     ∃ v, (∀ w' : World, (Builtin.len_ #[t] ty #[ux]).run P w' = .ok v w') ∧ Rel w0 mu c bf (a.put d v) w := by
   intro n ad k he hu rP; simp only [N.val, Option.some.injEq] at rP; subst rP
   cases hq : T.elem t with
   | none => simp [hq] at he
   | some p =>
     obtain ⟨r, b⟩ := p; obtain ⟨e, _, _, LQ, _⟩ := hT.elem t r b hq; subst hu; exact ⟨.int .i64 n, (fun w' => by simp [Builtin.len_, run_underlying LQ, goInt]), h.bj (u := .int .i64 n) rfl hd⟩
 cases x with
 | agg _ => simp [Cw, N.val] at hv
 | nb _ => simp [Cw, N.val] at hv
 | one cx => cases cx with
   | str s =>
     simp only [Cw] at hv
     cases hk : T.kind t with
     | none => simp [hk, N.val] at hv
     | some y => cases y with
       | str =>
         simp only [hk, N.val, Option.some.injEq] at hv; subst hv; have e : ux = .string s := hx; subst e; exact ⟨.int .i64 s.size, (fun w' => by simp [Builtin.len_, run_underlying (GU hT hk), goInt]), h.bj (u := .int .i64 s.size) rfl hd⟩
       | _ => simp [hk, N.val] at hv
   | ea =>
     simp only [Cw] at hv
     cases hk : T.elem t with
     | none => simp [hk, N.val] at hv
     | some p => simp only [hk] at hv; exact sl 0 none 0 (by simp [hk]) hx hv
   | shr r xs =>
     simp only [Cw] at hv
     cases hk : T.elem t with
     | none => simp [hk, N.val] at hv
     | some p =>
       simp only [hk] at hv; rcases (oc _ _ _ _ _).1 hx with ⟨h1, h2⟩ | ⟨ad, k, h1, _⟩
       · exact sl xs.length none 0 (by simp [hk]) (by rw [h1, h2]; rfl) hv
       · exact sl xs.length (some ad) k (by simp [hk]) h1 hv
   | ref a' j g vw =>
     simp only [Cw] at hv
     cases hk : T.elem t with
     | none => simp [hk, N.val] at hv
     | some p =>
       cases hA : bd st a' j g with
       | none => simp [hk, hA, N.val] at hv
       | some A =>
         simp only [hk, hA] at hv; obtain ⟨ad, k, hu⟩ := DW h hA hx; exact sl _ ad k (by simp [hk]) hu hv
   | _ => simp [Cw, N.val] at hv
theorem yJ {P : Program} {t e : TypeId} {i : TypeInfo} (hu : P.underlying t = some (.slice e)) (hi : P.info? e = some i) (w : World) (k : IntKind) (a : Addr) (n c : Nat) (j : Int) (h0 : 0 ≤ j) (hj : j < n) :
   (Instr.indexAt t (.slice (some a) n c) (.int k j)).run P w = .ok (.pointer (some (a.add (j.toNat * i.size)))) w := by
 simp [Instr.indexAt, asIntOf, run_underlying hu, sizeOf, typeInfo, hi, h0, hj]
theorem HK {P : Program} {T : la} (hT : gq P T) {w0 : World} {mu : Mu} {c : Cz} {st : St} {a : Act} {w : World} (h : Rel w0 mu c st a w)
   {d : Option Nat} {t : Nat} {x y : V} {ux uy : Value} (hx : eF c st w x ux) (hy : eF c st w y uy) {bf : St} (hv : (pM T st d t x y).val = some bf) (hd : ∀ k, d = some k → k < a.tmps.size) :
   ∃ v, (∀ w' : World, (Instr.indexAt t ux uy).run P w' = .ok v w') ∧ Rel w0 mu c bf (a.put d v) w := by
 cases ht : T.elem t with
 | none => simp [pM, ht, N.val] at hv
 | some p =>
   obtain ⟨q, bytes⟩ := p; obtain ⟨e, i, z, hu, hi, mj, Bo, _, _, _, _⟩ := hT.elem t q bytes ht; have rd : ∀ (ys : List (ar q)) (k : IntKind) (j : Int), uy = .int k j → cr w c.ok (.sl q) ux ys → (N.br (decide (0 ≤ j)) (.row q ys[j.toNat]? fun y => .done (bj st d (.one (.k9 q y 0)))) .fail).val = some bf →
       ∃ v, (∀ w' : World, (Instr.indexAt t ux uy).run P w' = .ok v w') ∧ Rel w0 mu c bf (a.put d v) w := by
     intro ys k j huy zR hv; obtain ⟨hj, hv⟩ := fG hv; have hj := of_decide_eq_true hj
     cases hr : ys[j.toNat]? with
     | none => simp [hr, N.val] at hv
     | some y =>
       simp only [hr] at hv; change some _ = some bf at hv; obtain rfl := Option.some.inj hv; have dC : j.toNat < ys.length := (List.getElem?_eq_some_iff.1 hr).1; rcases (oc _ _ _ _ _).1 zR with ⟨_, h2⟩ | ⟨ad, cap, h1, h2, h3, h4⟩
       · rw [h2] at dC; simp at dC
       · subst h1 huy; have ik : ys ≠ [] := by intro e; rw [e] at dC; simp at dC
         obtain ⟨g1, g2, g3⟩ := h3 ik; refine ⟨_, (fun w' => yJ hu hi w' k ad ys.length cap j hj (by omega)), h.bj (v := .one (.k9 q y 0)) ?_ hd⟩; have DF : ad = ⟨ad.block, ad.off, none⟩ := by cases ad; simp at g1 ⊢; exact g1
         refine ⟨ad.block, ad.off + j.toNat * q.width, ?_, g2, g3, h4 _ y hr⟩; rw [DF, Addr.add_mid, mj]; rfl
   cases x with
   | agg _ => cases y <;> simp [pM, ht, N.val] at hv
   | nb _ => cases y <;> simp [pM, ht, N.val] at hv
   | one cx => cases y with
     | agg _ => cases cx <;> simp [pM, ht, N.val] at hv
     | nb _ => cases cx <;> simp [pM, ht, N.val] at hv
     | one cy => cases cx with
       | shr r xs => cases cy with
         | int k j =>
           simp only [pM, ht] at hv
           cases hc : cm q xs with
           | none => simp [hc, N.val] at hv
           | some ys =>
             simp only [hc] at hv; obtain ⟨rfl, rfl⟩ := bD hc; exact rd _ k j hy hx hv
         | _ => simp [pM, ht, N.val] at hv
       | ref a' j g vw => cases cy with
         | int k n =>
           simp only [pM, ht] at hv
           cases hA : bd st a' j g with
           | none => simp [hA, N.val] at hv
           | some A =>
             simp only [hA] at hv
             cases hc : cm q A.xs with
             | none => simp [hc, N.val] at hv
             | some ys =>
               simp only [hc] at hv; obtain ⟨e', he⟩ := bD hc; subst e'; simp only at he; subst he; obtain ⟨sl, zP, LN, zQ⟩ := bA hA; have DN := h.aP a' j sl A zP zQ
               cases ho : A.own with
               | false =>
                 simp only [ho] at hv; have zh : A.md = .sh := by
                   cases hm : A.md with
                   | sh => rfl
                   | dp => rw [hm] at hv; simp [Md.is, N.val] at hv
                   | ho _ => rw [hm] at hv; simp [Md.is, N.val] at hv
                 rw [zh] at hv; simp only [Md.is, Bool.not_true, cond_false] at hv; refine rd _ k n hy ?_ hv; refine wL DN (hx.2.2 A hA) (fun _ h => h) (fun b hq _ => ?_) (by rw [zh]; rfl); rw [ho, zh] at hq; rcases hq with hq | hq <;> cases hq
               | true =>
                 simp only [ho] at hv; obtain ⟨hn, hv⟩ := fG hv; obtain ⟨dC, hv⟩ := fG hv; have hn := of_decide_eq_true hn; have dC : n.toNat < (vw.app A.xs).length := by simp [Nat.blt] at dC; omega
                 simp only [N.val, Option.some.injEq] at hv; subst hv; have hs := hx.2.2 A hA; have euy : uy = .int k n := hy; subst euy
                 cases hl : c.lc a' j with
                 | nil => unfold jx at hs; rw [hl] at hs; omega
                 | «at» b off cap =>
                   unfold jx at hs; rw [hl] at hs; obtain ⟨ad, cc, rfl, hcc, wM, DF⟩ := hs; have XZ : cc ≠ 0 := by omega
                   refine ⟨_, (fun w' => yJ hu hi w' k ad _ cc n hn (by omega)), h.bj (v := .one (.DJ a' j g _ 0)) ?_ hd⟩; have Ye : vw.idx n.toNat = vw.lo + n.toNat := by cases vw <;> simp [View.lo, View.idx]
                   rw [Ye]; have DX : A.xs[vw.lo + n.toNat]? = some (vw.app A.xs)[n.toNat] := View.vo vw A.xs (List.getElem?_eq_getElem dC); refine ⟨rfl, hx.2.1, fun A2 FH => ?_⟩; rw [hA] at FH; obtain rfl := Option.some.inj FH; refine ⟨(List.getElem?_eq_some_iff.1 DX).1, b, off, cap, hl, ?_⟩; rw [DF XZ, Addr.add_mid, mj, Nat.add_mul]; simp only [Nat.add_zero]; rw [Nat.add_assoc]
         | _ => simp [pM, ht, N.val] at hv
       | _ => cases cy <;> simp [pM, ht, N.val] at hv
end Go.TM
namespace Go.TM
open Go Go.RowKit
def DY (c : Cz) (st : St) (w : World) : Option V → Option Value → Prop
 | none, u => u = none
 | some v, u => ∃ x, u = some x ∧ eF c st w v x
def Bd (o : Option Value) (l : Option Nat) : Prop :=
 match l with
 | none => o = none
 | some l => ∃ k, o = some (.int k l)
theorem pe {c : Cz} {st : St} {w : World} {n : Nat} {lo hi : Option V} {ul uh : Option Value} (hl : DY c st w lo ul) (hh : DY c st w hi uh) {k : Option Nat → Option Nat → N} {bf : St}
   (hv : (oD n lo hi k).val = some bf) : ∃ l h, (k l h).val = some bf ∧ Bd ul l ∧ Bd uh h ∧ l.getD 0 ≤ h.getD n ∧ h.getD n ≤ n := by
 unfold oD at hv; simp only at hv; have Yf : ∀ (l : Option Nat), (hi = none → l.getD 0 ≤ n) → (match hi with
     | none => k l none
     | some (.one (.int _ h)) => .br (decide ((match l with | some l => (l : Int) | none => 0) ≤ h)) (.br (decide (h ≤ n)) (k l (some h.toNat)) .fail) .fail
     | _ => .fail).val = some bf → ∃ h, (k l h).val = some bf ∧ Bd uh h ∧ l.getD 0 ≤ h.getD n ∧ h.getD n ≤ n := by
   intro l Jp hv
   cases hi with
   | none => exact ⟨none, hv, hh, Jp rfl, Nat.le_refl _⟩
   | some v => cases v with
     | agg _ => simp [N.val] at hv
     | nb _ => simp [N.val] at hv
     | one x => cases x with
       | int q h =>
         simp only at hv; obtain ⟨h1, hv⟩ := fG hv; obtain ⟨h2, hv⟩ := fG hv; have h1 := of_decide_eq_true h1; have h2 := of_decide_eq_true h2; obtain ⟨x, rfl, hx⟩ := hh; have e : x = .int q h := hx; subst e; have h0 : 0 ≤ h := by cases l <;> simp at h1 <;> omega
         refine ⟨some h.toNat, hv, ⟨q, by rw [Int.toNat_of_nonneg h0]⟩, ?_, by simp; omega⟩
         cases l <;> simp at h1 ⊢; omega
       | _ => simp [N.val] at hv
 cases lo with
 | none =>
   obtain ⟨h, g1, g2, g3, g4⟩ := Yf none (fun _ => Nat.zero_le _) hv; exact ⟨none, h, g1, hl, g2, g3, g4⟩
 | some v => cases v with
   | agg _ => simp [N.val] at hv
   | nb _ => simp [N.val] at hv
   | one x => cases x with
     | int q l =>
       simp only at hv; obtain ⟨h1, hv⟩ := fG hv; have h1 := of_decide_eq_true h1; obtain ⟨x, rfl, hx⟩ := hl; have e : x = .int q l := hx; subst e; have hb : Bd (some (.int q l)) (some l.toNat) := ⟨q, by rw [Int.toNat_of_nonneg h1]⟩
       cases hi with
       | none =>
         simp only at hv; obtain ⟨h2, hv⟩ := fG hv; have h2 := of_decide_eq_true h2; obtain ⟨h, g1, g2, g3, g4⟩ := Yf (some l.toNat) (fun _ => by simp; omega) hv; exact ⟨some l.toNat, h, g1, hb, g2, g3, g4⟩
       | some v =>
         obtain ⟨h, g1, g2, g3, g4⟩ := Yf (some l.toNat) (fun e => by cases e) hv; exact ⟨some l.toNat, h, g1, hb, g2, g3, g4⟩
     | _ => simp [N.val] at hv
theorem Af {P : Program} {w : World} {n cap : Nat} {ul uh : Option Value} {l h : Option Nat} (b : Bool) (hl : Bd ul l) (hh : Bd uh h) (h1 : l.getD 0 ≤ h.getD n) (h2 : h.getD n ≤ n) (hc : n ≤ cap) :
   (Instr.sliceBounds b n cap ul uh none).run P w = .ok (l.getD 0, h.getD n, cap) w := by
 have key : ∀ (q : IntKind) (y m : Nat) (code : BoundsCode), y ≤ m → (Instr.sliceBound (.int q y) m code).run P w = .ok y w := by
   intro q y m code hy; simp [Instr.sliceBound, asIntOf, hy]
 cases l with
 | none =>
   simp only [Bd] at hl; subst hl
   cases h with
   | none =>
     simp only [Bd] at hh; subst hh; simp [Instr.sliceBounds]
   | some h =>
     obtain ⟨q, rfl⟩ := hh; simp at h2; simp [Instr.sliceBounds, key q h cap _ (by omega)]
 | some l =>
   obtain ⟨q, rfl⟩ := hl
   cases h with
   | none =>
     simp only [Bd] at hh; subst hh; simp at h1; simp [Instr.sliceBounds, key q l n _ h1]
   | some h =>
     obtain ⟨q', rfl⟩ := hh; simp at h1 h2; simp [Instr.sliceBounds, key q' h cap _ (by omega), key q l h _ h1]
theorem View.GV {α : Type} (w : View) (xs : List α) (l h : Option Nat) (h1 : l.getD 0 ≤ h.getD (w.app xs).length) (h2 : h.getD (w.app xs).length ≤ (w.app xs).length) :
   (w.of (w.app xs).length l h).lo = w.lo + l.getD 0 ∧ ((w.of (w.app xs).length l h).app xs).length = h.getD (w.app xs).length - l.getD 0 := by
 cases w with
 | full => cases l <;> cases h <;> simp [View.of, View.lo, View.app] at h1 h2 ⊢ <;> omega
 | «from» a => cases l <;> cases h <;> simp [View.of, View.lo, View.app] at h1 h2 ⊢ <;> omega
 | sub a m => cases l <;> cases h <;> simp [View.of, View.lo, View.app] at h1 h2 ⊢ <;> omega
theorem HL (n : Nat) (l h : Option Nat) : Fp n l h = View.full.of n l h := by
 cases l <;> cases h <;> simp [Fp, View.of, View.lo]
theorem pE {P : Program} {t e : TypeId} {i : TypeInfo} (hu : P.underlying t = some (.slice e)) (hi : P.info? e = some i) {w : World} {a : Option Addr} {n cap : Nat} {ul uh : Option Value} {l h : Option Nat}
   (hl : Bd ul l) (hh : Bd uh h) (h1 : l.getD 0 ≤ h.getD n) (h2 : h.getD n ≤ n) (hc : n ≤ cap) :
   (Instr.sliceAt t (.slice a n cap) ul uh none).run P w = .ok (.slice (if cap = l.getD 0 then a else a.map (·.add (l.getD 0 * i.size))) (h.getD n - l.getD 0) (cap - l.getD 0)) w := by
 have hb := Af (P := P) (w := w) true hl hh h1 h2 hc; simp [Instr.sliceAt, Instr.slice, run_underlying hu, sizeOf, typeInfo, hi, hb]
theorem HM {P : Program} {T : la} (hT : gq P T) {w0 : World} {mu : Mu} {c : Cz} {st : St} {a : Act} {w : World} (h : Rel w0 mu c st a w)
   {d : Option Nat} {t : Nat} {x : V} {ux : Value} {lo hi : Option V} {ul uh : Option Value} (hx : eF c st w x ux) (hl : DY c st w lo ul) (hh : DY c st w hi uh) {bf : St}
   (hv : (s3 T st d t x lo hi).val = some bf) (hd : ∀ k, d = some k → k < a.tmps.size) :
   ∃ v, (∀ w' : World, (Instr.sliceAt t ux ul uh none).run P w' = .ok v w') ∧ Rel w0 mu c bf (a.put d v) w := by
 cases x with
 | agg _ => simp [s3, N.val] at hv
 | nb _ => simp [s3, N.val] at hv
 | one cx => cases cx with
   | str s =>
     simp only [s3] at hv
     cases hk : T.kind t with
     | none => simp [hk, N.val] at hv
     | some y => cases y with
       | str =>
         simp only [hk] at hv; obtain ⟨l, q, hv, g1, g2, g3, g4⟩ := pe hl hh hv; simp only [N.val, Option.some.injEq] at hv; subst hv; have e : ux = .string s := hx; subst e; have hb := fun w' : World => Af (P := P) (w := w') false g1 g2 g3 g4 (Nat.le_refl _)
         refine ⟨.string (s.extract (l.getD 0) (q.getD s.size)), (fun w' => by simp [Instr.sliceAt, Instr.slice, run_underlying (GU hT hk), hb w']), ?_⟩; exact h.bj (v := .one (.str _)) rfl hd
       | _ => simp [hk, N.val] at hv
   | ea =>
     simp only [s3] at hv
     cases hk : T.elem t with
     | none => simp [hk, N.val] at hv
     | some p =>
       obtain ⟨r, b⟩ := p; simp only [hk] at hv; obtain ⟨e, i, z, hu, hi, _⟩ := hT.elem t r b hk; obtain ⟨l, q, hv, g1, g2, g3, g4⟩ := pe hl hh hv; simp only [N.val, Option.some.injEq] at hv; subst hv; have eu : ux = .slice none 0 0 := hx; subst eu; have hr := fun w' : World => pE (P := P) (w := w') (a := none) hu hi g1 g2 g3 g4 (Nat.le_refl 0)
       have e1 : l.getD 0 = 0 := by omega
       have e2 : q.getD 0 = 0 := by omega
       simp only [e1, e2] at hr; exact ⟨_, hr, h.bj (v := .one .ea) rfl hd⟩
   | shr r xs =>
     simp only [s3] at hv
     cases hk : T.elem t with
     | none => simp [hk, N.val] at hv
     | some p =>
       obtain ⟨r', b⟩ := p; simp only [hk] at hv
       cases hc : cm r' xs with
       | none => simp [hc, N.val] at hv
       | some ys =>
         simp only [hc] at hv; obtain ⟨rfl, hq⟩ := bD hc
         replace hq : xs = ys := hq.symm
         subst hq; obtain ⟨e, i, z, hu, hi, mj, Bo, _⟩ := hT.elem t r b hk; obtain ⟨l, q, hv, g1, g2, g3, g4⟩ := pe hl hh hv; simp only [N.val, Option.some.injEq] at hv; subst hv; have ss := View.GV .full xs l q g3 g4; rw [HL]; rcases (oc _ _ _ _ _).1 hx with ⟨rfl, rfl⟩ | ⟨ad, cap, rfl, h2, h3, h4⟩
         · have hr := fun w' : World => pE (P := P) (w := w') (a := none) hu hi g1 g2 g3 g4 (Nat.le_refl 0)
           simp at g3 g4; have e1 : l.getD 0 = 0 := by omega
           have e2 : q.getD 0 = 0 := by omega
           simp only [e1, show q.getD ([] : List (ar r)).length = 0 from e2] at hr; refine ⟨_, hr, h.bj (v := .one (.shr r _)) ?_ hd⟩; refine (oc _ _ _ _ _).2 (.inl ⟨rfl, ?_⟩); have := ss.2; simp [View.app] at this ⊢
           cases hw : View.full.of 0 l q <;> simp
         · have hr := fun w' : World => pE (P := P) (w := w') (a := some ad) hu hi g1 g2 g3 g4 h2
           refine ⟨_, hr, h.bj (v := .one (.shr r _)) ?_ hd⟩; have hlen : ((View.full.of xs.length l q).app xs).length = q.getD xs.length - l.getD 0 := ss.2; refine (oc _ _ _ _ _).2 (.inr ⟨if cap = l.getD 0 then ad else ad.add (l.getD 0 * i.size), cap - l.getD 0, ?_, by rw [hlen]; omega, fun ik => ?_, fun j y hy => ?_⟩)
           · rw [hlen]
             congr 1
             by_cases e : cap = l.getD 0 <;> simp [e]
           · have hp : 0 < q.getD xs.length - l.getD 0 := by rw [← hlen]; exact List.length_pos_iff.2 ik
             have N9 : xs ≠ [] := by intro e; subst e; simp at g4 hp; omega
             obtain ⟨k1, k2, k3⟩ := h3 N9; have DF : ad = ⟨ad.block, ad.off, none⟩ := by cases ad; simp at k1 ⊢; exact k1
             rw [if_neg (by omega), DF, Addr.add_mid]; exact ⟨rfl, k2, k3⟩
           · have hj : j < q.getD xs.length - l.getD 0 := by rw [← hlen]; exact (List.getElem?_eq_some_iff.1 hy).1
             have N9 : xs ≠ [] := by intro e; subst e; simp at g4 hj; omega
             obtain ⟨k1, k2, k3⟩ := h3 N9; have DF : ad = ⟨ad.block, ad.off, none⟩ := by cases ad; simp at k1 ⊢; exact k1
             rw [if_neg (by omega), DF, Addr.add_mid]; have DX := View.vo (View.full.of xs.length l q) xs hy; rw [show (View.full.of xs.length l q).lo = l.getD 0 by have h9 : (View.full.of xs.length l q).lo = View.full.lo + l.getD 0 := ss.1; rw [h9]; simp [View.lo]] at DX; have := h4 _ y DX; rw [Nat.add_mul] at this; rw [mj]; simp only; rw [Nat.add_assoc]; exact this
   | ref a' j g vw =>
     simp only [s3] at hv
     cases hk : T.elem t with
     | none => simp [hk, N.val] at hv
     | some p =>
       obtain ⟨r', b⟩ := p; simp only [hk] at hv
       cases hA : bd st a' j g with
       | none => simp [hA, N.val] at hv
       | some A =>
         simp only [hA] at hv
         cases hc : cm r' A.xs with
         | none => simp [hc, N.val] at hv
         | some ys =>
           simp only [hc] at hv; obtain ⟨e', he⟩ := bD hc; subst e'; simp only at he; subst he; obtain ⟨e, i, z, hu, hi, mj, Bo, _⟩ := hT.elem t A.r b hk; obtain ⟨l, q, hv, g1, g2, g3, g4⟩ := pe hl hh hv; simp only [N.val, Option.some.injEq] at hv; subst hv; have ss := View.GV vw A.xs l q g3 g4; have hs := hx.2.2 A hA
           cases iA : c.lc a' j with
           | nil =>
             unfold jx at hs; rw [iA] at hs; obtain ⟨rfl, hn⟩ := hs; rw [hn] at g3 g4; have hr := fun w' : World => pE (P := P) (w := w') (a := none) hu hi g1 g2 g3 g4 (Nat.le_refl 0)
             have e1 : l.getD 0 = 0 := by omega
             have e2 : q.getD 0 = 0 := by omega
             simp only [e1, e2] at hr; refine ⟨_, hr, h.bj (v := .one (.ref a' j g _)) ⟨rfl, hx.2.1, fun A2 FH => ?_⟩ hd⟩; rw [hA] at FH; obtain rfl := Option.some.inj FH; rw [iA]; refine ⟨by simp, ?_⟩; rw [ss.2, hn]; omega
           | «at» bb off cap =>
             unfold jx at hs; rw [iA] at hs; obtain ⟨ad, cc, rfl, hcc, wM, DF⟩ := hs; have hr := fun w' : World => pE (P := P) (w := w') (a := some ad) hu hi g1 g2 g3 g4 hcc
             refine ⟨_, hr, h.bj (v := .one (.ref a' j g _)) ⟨?_, hx.2.1, fun A2 FH => ?_⟩ hd⟩
             · by_cases e : cc = l.getD 0 <;> simp [e, Value.oneCell']
             · rw [hA] at FH; obtain rfl := Option.some.inj FH; rw [iA]; refine ⟨if cc = l.getD 0 then ad else ad.add (l.getD 0 * i.size), cc - l.getD 0, ?_, by rw [ss.2]; omega, by rw [ss.1]; omega, fun ik => ?_⟩
               · rw [ss.2]
                 congr 1
                 by_cases e : cc = l.getD 0 <;> simp [e]
               · rw [if_neg (by omega), DF (by omega), Addr.add_mid, ss.1, mj, Nat.add_mul, Nat.add_assoc]
   | _ => simp [s3, N.val] at hv
end Go.TM
namespace Go.TM
open Go Go.RowKit
theorem Fw.grow {w0 : World} {mu : Mu} {c : Cz} {st : St} {a : Act} {w : World} (h : Rel w0 mu c st a w) (o : Obj) : Fw c st w c st (w.alloc o) where
 stays := uC w _ _ _ fun _ _ h => h
 refs a' j g A' _ ew := ⟨A', ew, rfl, rfl, rfl, fun _ => ⟨rfl, fun b oo cap iA => heap_alloc_old w _ b ((h.sx (g := g) ew).lt iA)⟩⟩
 zg _ _ nc _ hb := ⟨⟨nc, hb⟩, rfl⟩
 gA _ := Nat.le_refl _
 gB _ := Nat.le_refl _
 gE _ := Nat.le_refl _
theorem Rel.grow {w0 : World} {mu : Mu} {c : Cz} {st : St} {a : Act} {w : World} (h : Rel w0 mu c st a w) (o : Obj) : Rel w0 mu c st a (w.alloc o) where
 fp t := (Fw.grow h o).m8 (h.fp t)
 boxes s sl cs hs hb := by
   have NS := h.boxes s sl cs hs hb; exact NS.go (Fw.grow h o) rfl rfl (heap_alloc_old w _ _ (h.oF NS.1))
 aP s j sl A hs hA := (h.aP s j sl A hs hA).go (Fw.grow h o).stays rfl fun b hb => ⟨heap_alloc_old w _ b (h.oF hb), rfl⟩
 owned b l hb := ⟨Nat.lt_of_lt_of_le (h.owned b l hb).1 (by simp), (h.owned b l hb).2⟩
 free := h.free
 kept := ⟨h.kept.1, h.kept.2.1, h.kept.2.2.1, Nat.le_trans h.kept.2.2.2 (by simp)⟩
 old k hk hm := by
   rw [heap_alloc_old w _ k (Nat.lt_of_lt_of_le hk h.kept.2.2.2)]; exact h.old k hk hm
 ed p hp := (Fw.grow h o).ed (h.ed p hp)
 plain := h.plain
theorem fo.SS {c : Cz} {st : St} {w : World} {x : CV} {cs : List CV} {vs : List Value} (h : fo c st w (x :: cs) vs) : ∃ v l, vs = v :: l ∧ jG c st w x v ∧ fo c st w cs l := by
 obtain ⟨h1, h2⟩ := h
 cases vs with
 | nil => simp at h1
 | cons v l => exact ⟨v, l, rfl, h2 0 x v rfl rfl, by simpa using h1, fun i y u hy hu => h2 (i + 1) y u (by simpa using hy) (by simpa using hu)⟩
theorem Mg {w : World} {ok : Nat → Prop} {b off : Nat} (x : ar .nil) : dt w ok .nil b off x := by unfold dt; trivial
theorem wZ {w : World} {ok : Nat → Prop} {t : Ty} {r : RT} {b off : Nat} {x : ar (.cons t r)} : dt w ok (.cons t r) b off x ↔ (∃ v, w.cell? ⟨b, off, none⟩ = some v ∧ cr w ok t v x.1) ∧ dt w ok r b (off + 1) x.2 := by
 constructor
 · intro h; unfold dt at h; exact h
 · intro h; unfold dt; exact h
theorem mP {c : Cz} {st : St} {w w' : World} {ok : Nat → Prop} (hs : iU w w' c.ok ok) {b : Nat} : (cs : List CV) → {r : RT} → {x : ar r} → ec cs = some ⟨r, x⟩ → (vs : List Value) → (off : Nat) → fo c st w cs vs → (∀ (i : Nat) v, vs[i]? = some v → w'.cell? ⟨b, off + i, none⟩ = some v) → dt w' ok r b off x
 | [], r, x, h, vs, off, _, _ => by
   unfold ec at h
   cases h
   exact Mg _
 | cx :: cs, r, x, h, vs, off, hl, hc => by
   obtain ⟨v, l, rfl, hx, um⟩ := hl.SS; have h0 := hc 0 v rfl; rw [Nat.add_zero] at h0; have eU : ∀ (i : Nat) u, l[i]? = some u → w'.cell? ⟨b, off + 1 + i, none⟩ = some u := fun i u hu => by
     have := hc (i + 1) u hu
     rwa [show off + (i + 1) = off + 1 + i by omega] at this
   cases cx with
   | int k n =>
     unfold ec at h
     cases hq : ec cs with
     | none => rw [hq] at h; cases h
     | some p =>
       obtain ⟨r0, x0⟩ := p; rw [hq] at h
       cases h
       have ih := mP hs cs hq l (off + 1) um eU; exact wZ.2 ⟨⟨v, h0, s8.2 hx⟩, ih⟩
   | bool n =>
     unfold ec at h
     cases hq : ec cs with
     | none => rw [hq] at h; cases h
     | some p =>
       obtain ⟨r0, x0⟩ := p; rw [hq] at h
       cases h
       have ih := mP hs cs hq l (off + 1) um eU; exact wZ.2 ⟨⟨v, h0, rj.2 hx⟩, ih⟩
   | str n =>
     unfold ec at h
     cases hq : ec cs with
     | none => rw [hq] at h; cases h
     | some p =>
       obtain ⟨r0, x0⟩ := p; rw [hq] at h
       cases h
       have ih := mP hs cs hq l (off + 1) um eU; exact wZ.2 ⟨⟨v, h0, uw.2 hx⟩, ih⟩
   | shr q xs =>
     unfold ec at h
     cases hq : ec cs with
     | none => rw [hq] at h; cases h
     | some p =>
       obtain ⟨r0, x0⟩ := p; rw [hq] at h
       cases h
       have ih := mP hs cs hq l (off + 1) um eU; exact wZ.2 ⟨⟨v, h0, cr.stays hs _ _ _ hx⟩, ih⟩
   | _ => simp [ec] at h
def Cz.tW (c : Cz) (s : Nat) : Cz :=
 { c with own := fun k => match c.own k with | some (.box t) => if t = s then none else some (.box t) | l => l }
theorem Cz.J2 {c : Cz} {s b : Nat} (h : c.ok b) : (c.tW s).ok b := by
 unfold Cz.ok Cz.tW at *; simp [h]
theorem Cz.BN {c : Cz} {s b : Nat} (h : c.own b = some (.box s)) : (c.tW s).ok b := by
 unfold Cz.ok Cz.tW; simp [h]
theorem Cz.Ag {c : Cz} {s b : Nat} {l : Lb} (h : c.own b = some l) (ik : l ≠ .box s) : (c.tW s).own b = some l := by
 unfold Cz.tW; simp only [h]
 cases l with
 | box t =>
   simp only; rw [if_neg]
   rintro rfl
   exact ik rfl
 | _ => rfl
theorem Cz.FI {c : Cz} {s b : Nat} {l : Lb} (h : (c.tW s).own b = some l) : c.own b = some l := by
 unfold Cz.tW at h; simp only at h
 cases hc : c.own b with
 | none => simp [hc] at h
 | some l' => cases l' with
   | box t =>
     simp only [hc] at h
     by_cases e : t = s
     · simp [e] at h
     · rw [if_neg e] at h; exact h
   | _ => simp [hc] at h; rw [h]
theorem rq (st : St) (b s : Nat) : nth (fT st b) s = if s = b then (nth st s).map (fun x => { x with box := none }) else nth st s := by
 unfold fT; rw [dF]
theorem lh (st : St) (b s : Nat) : cz (fT st b) s = cz st s ∧ dv (fT st b) s = dv st s ∧ gD (fT st b) s = gD st s ∧ my (fT st b) s = my st s ∧ ∀ j g, bd (fT st b) s j g = bd st s j g := by
 unfold cz dv gD my bd; rw [rq]
 by_cases e : s = b
 · rw [if_pos e]
   cases nth st s <;> simp
 · rw [if_neg e]; simp
theorem CK {st : St} {b s g : Nat} {cs : List CV} (h : dE (fT st b) s g = some cs) : s ≠ b ∧ dE st s g = some cs := by
 unfold dE at h ⊢; rw [rq] at h
 by_cases e : s = b
 · rw [if_pos e] at h
   cases hx : nth st s with
   | none => rw [hx] at h; cases h
   | some x =>
     rw [hx] at h; simp only [Option.map_some] at h
     cases hb : Nat.beq x.bg g <;> rw [hb] at h <;> cases h
 · rw [if_neg e] at h; exact ⟨e, h⟩
theorem Fw.fT (c : Cz) (st : St) (w : World) (s : Nat) : Fw c st w (c.tW s) (fT st s) w where
 stays := ⟨Nat.le_refl _, fun _ _ _ => rfl, fun _ _ h => Cz.J2 h⟩
 refs a' j' g A' _ ew := ⟨A', by rwa [(lh st s a').2.2.2.2] at ew, rfl, rfl, rfl, fun _ => ⟨rfl, fun _ _ _ _ => rfl⟩⟩
 zg b g nc _ h := ⟨⟨nc, (CK h).2⟩, rfl⟩
 gA b := by rw [(lh st s b).2.1]; exact Nat.le_refl _
 gB b := by rw [(lh st s b).2.2.1]; exact Nat.le_refl _
 gE b := by rw [(lh st s b).2.2.2.1]; exact Nat.le_refl _
theorem Rel.fT {w0 : World} {mu : Mu} {c : Cz} {st : St} {a : Act} {w : World} (h : Rel w0 mu c st a w) (s : Nat) : Rel w0 mu (c.tW s) (fT st s) a w where
 fp t := by rw [(lh st s t).1]; exact (Fw.fT c st w s).m8 (h.fp t)
 boxes b sl cs hs hb := by
   rw [rq] at hs
   by_cases e : b = s
   · rw [if_pos e] at hs
     cases hx : nth st b with
     | none => rw [hx] at hs; cases hs
     | some x => rw [hx] at hs; simp at hs; subst hs; cases hb
   · rw [if_neg e] at hs; have h0 := h.boxes b sl cs hs hb; exact h0.go (Fw.fT c st w s) rfl (by rw [h0.1]; exact Cz.Ag h0.1 (by intro e'; injection e' with e'; exact e e')) rfl
 aP b i sl A hs hb := by
   rw [rq] at hs; have h0 : cu c w b i A := by
     by_cases e : b = s
     · rw [if_pos e] at hs
       cases hx : nth st b with
       | none => rw [hx] at hs; cases hs
       | some x => rw [hx] at hs; simp at hs; subst hs; exact h.aP b i x A hx hb
     · rw [if_neg e] at hs; exact h.aP b i sl A hs hb
   exact h0.go (Fw.fT c st w s).stays rfl fun k h1 => ⟨rfl, by rw [h1]; exact Cz.Ag h1 (by intro e; cases e)⟩
 owned b l hb := h.owned b l (Cz.FI hb)
 free b hb h1 := by
   cases hc : c.own b with
   | none => exact h.free b hb hc
   | some l =>
     rcases (h.owned b l hc).2 with h2 | h2 | h2
     · subst h2; unfold Cz.tW at h1; simp [hc] at h1
     · omega
     · exact .inl h2
 kept := h.kept
 old := h.old
 ed p hp := (Fw.fT c st w s).ed (h.ed p hp)
 plain := h.plain
theorem DZ {w : World} {b : Nat} {vs : Array Value} {ty : TypeId} (h : w.heap[b]? = some (.cells vs ty (0, 0))) {i : Nat} {v : Value} (hv : vs.toList[i]? = some v) : w.cell? ⟨b, i, none⟩ = some v := by
 unfold World.cell?; simp [h]; simpa using hv
theorem xR (st : St) (b g : Nat) (r : RT) (x : ar r) : (s : Nat) → nth (ng st b g r x) s = (nth st s).map fun z => { z with v := XT b g r x z.v } := by
 unfold ng
 induction st with
 | nil => intro s; rfl
 | cons y st ih => intro s; cases s with
   | zero => rfl
   | succ s => exact ih s
theorem oI (st : St) (b g : Nat) (r : RT) (x : ar r) (s : Nat) : cz (ng st b g r x) s = XT b g r x (cz st s) ∧ dv (ng st b g r x) s = dv st s ∧ gD (ng st b g r x) s = gD st s ∧ my (ng st b g r x) s = my st s ∧ (∀ j g', bd (ng st b g r x) s j g' = bd st s j g') ∧ ∀ g', dE (ng st b g r x) s g' = dE st s g' := by
 unfold cz dv gD my bd dE; rw [xR]
 cases nth st s with
 | none => exact ⟨rfl, rfl, rfl, rfl, fun _ _ => rfl, fun _ => rfl⟩
 | some z => exact ⟨rfl, rfl, rfl, rfl, fun _ _ => rfl, fun _ => rfl⟩
theorem Fw.ng (c : Cz) (st : St) (w : World) (b g : Nat) (r : RT) (x : ar r) : Fw c st w c (ng st b g r x) w where
 stays := ⟨Nat.le_refl _, fun _ _ _ => rfl, fun _ _ h => h⟩
 refs a' j' g' A' _ ew := ⟨A', by rwa [(oI st b g r x a').2.2.2.2.1] at ew, rfl, rfl, rfl, fun _ => ⟨rfl, fun _ _ _ _ => rfl⟩⟩
 zg b' g' nc _ h := ⟨⟨nc, by rwa [(oI st b g r x b').2.2.2.2.2] at h⟩, rfl⟩
 gA s := by rw [(oI st b g r x s).2.1]; exact Nat.le_refl _
 gB s := by rw [(oI st b g r x s).2.2.1]; exact Nat.le_refl _
 gE s := by rw [(oI st b g r x s).2.2.2.1]; exact Nat.le_refl _
theorem Rel.ng {w0 : World} {mu : Mu} {c : Cz} {st : St} {a : Act} {w : World} (h : Rel w0 mu c st a w) {b g : Nat} {r : RT} {x : ar r} (hp : ∀ t off, cz st t = .one (.ptr b g off) → jG c st w (.k9 r x off) (a.eval (.tmp t))) : Rel w0 mu c (ng st b g r x) a w where
 fp t := by
   rw [(oI st b g r x t).1]; have h0 := (Fw.ng c st w b g r x).m8 (h.fp t)
   cases hv : cz st t with
   | one cv => cases cv with
     | ptr b' g' off =>
       rw [hv] at h0; show eF c (TM.ng st b g r x) w (bif Nat.beq b' b && Nat.beq g' g then .one (.k9 r x off) else .one (.ptr b' g' off)) (a.eval (.tmp t))
       cases hb : Nat.beq b' b && Nat.beq g' g with
       | false => exact h0
       | true =>
         rw [Bool.and_eq_true] at hb; have e1 := Nat.eq_of_beq_eq_true hb.1; have e2 := Nat.eq_of_beq_eq_true hb.2; subst e1 e2; exact hp t off hv
     | _ => rw [hv] at h0; exact h0
   | agg _ => rw [hv] at h0; exact h0
   | nb _ => rw [hv] at h0; exact h0
 boxes s sl cs hs hb := by
   rw [xR] at hs; obtain ⟨z, hz, rfl⟩ := Option.map_eq_some_iff.1 hs; have h0 := h.boxes s z cs hz hb; exact h0.go (Fw.ng c st w b g r x) rfl (by rw [h0.1]) rfl
 aP s j sl A hs hA := by
   rw [xR] at hs; obtain ⟨z, hz, rfl⟩ := Option.map_eq_some_iff.1 hs; exact h.aP s j z A hz hA
 owned := h.owned
 free := h.free
 kept := h.kept
 old := h.old
 plain := h.plain
 ed p hp := (Fw.ng c st w b g r x).ed (h.ed p hp)
theorem Mh {w0 : World} {mu : Mu} {c : Cz} {st bf : St} {a : Act} {w : World} (h : Rel w0 mu c st a w) {t : Nat} {r : RT} {ys : List (ar r)} (hc : L1 st t = some (bf, ⟨r, ys⟩)) :
   ∃ c', Rel w0 mu c' bf a w ∧ Fw c st w c' bf w ∧ BF w c'.ok r (a.eval (.tmp t)) ys := by
 have hx := h.fp t; unfold L1 at hc
 split at hc
 · rename_i r' x' off e; obtain ⟨h1, hc⟩ := aI hc; have h1 := Nat.eq_of_beq_eq_true h1; subst h1
   cases hc
   rw [e] at hx; obtain ⟨b, o, e1, e2, e3, e4⟩ := hx; refine ⟨c, h, Fw.refl c st w, b, o, e1, e2, e3, fun y hy => ?_⟩; simp at hy; subst hy; exact e4
 · rename_i r' xs off e; obtain ⟨h1, hc⟩ := aI hc; have h1 := Nat.eq_of_beq_eq_true h1; subst h1
   cases hc
   rw [e] at hx; obtain ⟨b, o, e1, e2, e3, e4⟩ := hx; exact ⟨c, h, Fw.refl c st w, b, o, e1, e2, e3, e4⟩
 · rename_i b g off e
   cases hb : dE st b g with
   | none => rw [hb] at hc; cases hc
   | some cs =>
     rw [hb] at hc; simp only at hc; obtain ⟨h1, hc⟩ := aI hc; have h1 := Nat.eq_of_beq_eq_true h1; subst h1
     cases hp : ec cs with
     | none => rw [hp] at hc; cases hc
     | some p =>
       obtain ⟨r0, x0⟩ := p; rw [hp] at hc
       cases hc
       rw [e] at hx; have hu := hx.2.2 cs hb; obtain ⟨sl, zP, LN, zQ⟩ := il hb; obtain ⟨ho, vs, ty, hh, hl⟩ := h.boxes b sl cs zP zQ; have zR : dt w (c.tW b).ok r (c.bx b) 0 x0 := by
         refine mP (Fw.fT c st w b).stays cs hp vs.toList 0 hl fun i v hv => ?_
         rw [Nat.zero_add]; exact DZ hh hv
       refine ⟨_, (h.fT b).ng (fun t' SE hv => ?_), (Fw.fT c st w b).trans (Fw.ng _ _ w _ _ _ _), c.bx b, 0, hu, h.oF ho, Cz.BN ho, fun y hy => ?_⟩
       · rw [(lh st b t').1] at hv; have h2 := h.fp t'; rw [hv] at h2; have hu2 := h2.2.2 cs hb; exact ⟨c.bx b, 0, by rw [Nat.zero_add]; exact hu2, h.oF ho, Cz.BN ho, zR⟩
       · simp at hy; subst hy; exact zR
 · cases hc
theorem D0 {w0 : World} {mu : Mu} {a : Act} {w : World} : (l : List Operand) → {c : Cz} → {st bf : St} → Rel w0 mu c st a w → {rs : RT} → {x : ar rs} → vL st l = some (bf, ⟨rs, x⟩) →
   ∃ c', Rel w0 mu c' bf a w ∧ Fw c st w c' bf w ∧ tc w c'.ok rs (l.map a.eval) x
 | [], c, st, bf, h, rs, x, hc => by
   unfold vL at hc
   cases hc
   exact ⟨c, h, Fw.refl c st w, rfl⟩
 | .tmp t :: l, c, st, bf, h, rs, x, hc => by
   unfold vL at hc
   cases h1 : L1 st t with
   | none => rw [h1] at hc; cases hc
   | some p =>
     obtain ⟨zi, r, y⟩ := p; rw [h1] at hc; simp only at hc
     cases h2 : vL zi l with
     | none => rw [h2] at hc; cases hc
     | some p =>
       obtain ⟨hM, rs0, ys⟩ := p; rw [h2] at hc
       cases hc
       obtain ⟨c1, k1, k2, k3⟩ := Mh h h1; obtain ⟨c2, g1, g2, g3⟩ := D0 l k1 h2; exact ⟨c2, g1, k2.trans g2, _, _, rfl, k3.stays g2.stays, g3⟩
 | .const _ :: _, _, _, _, _, _, _, hc => by simp [vL] at hc
 | .func _ :: _, _, _, _, _, _, _, hc => by simp [vL] at hc
 | .global _ :: _, _, _, _, _, _, _, hc => by simp [vL] at hc
theorem D1 {c : Cz} {st : St} {w : World} : (rs : RT) → (vs : List Value) → (x : ar rs) → tc w c.ok rs vs x → (tV rs x).length = vs.length ∧ ∀ (k : Nat) v u, (tV rs x)[k]? = some v → vs[k]? = some u → eF c st w v u
 | .nil, vs, x, h => by
   subst h; exact ⟨rfl, fun k v u hv => by simp [tV] at hv⟩
 | .cons (.sl r) rs, vs, x, h => by
   obtain ⟨v0, l, rfl, ⟨b, o, e1, e2, e3, e4⟩, h2⟩ := h; obtain ⟨g1, g2⟩ := D1 (c := c) (st := st) rs l x.2 h2; refine ⟨by simp [tV, g1], fun k v u hv hu => ?_⟩
   cases k with
   | zero =>
     simp only [tV, List.getElem?_cons_zero, Option.some.injEq] at hv hu; subst hv hu; exact ⟨b, o, by rw [Nat.add_zero]; exact e1, e2, e3, e4⟩
   | succ k => exact g2 k v u (by simpa [tV] using hv) (by simpa using hu)
 | .cons (.int _) _, _, _, h => h.elim
 | .cons .bool _, _, _, h => h.elim
 | .cons .str _, _, _, h => h.elim
end Go.TM
namespace Go.TM
open Go Go.RowKit
def wc (P : Program) (T : la) : Prop :=
 ∀ t, T.eq t = true → ∀ (c : Cz) (st : St) (w : World) (l m : List CV) (us vs : Array Value) (b : Bool) (op : BinOp) (ox oy : Operand), T.fits t l = true → nf l m = some b →
   fo c st w l us.toList → fo c st w m vs.toList → ∀ w' : World, (eqGuard op t ox oy (.agg us) (.agg vs)).run P w' = .ok () w' ∧ (Op.equal t (.agg us) (.agg vs)).run P w' = .ok b w'
def uI (P : Program) (w0 : World) (mu : Mu) (bf : St) (o : Oper) (a : Act) (w : World) (kp : Bool) : Prop :=
 ∀ Q : Exit → Act → World → Prop, o.wp P a w (fun a' w' => (∃ c', Rel w0 mu c' bf a' w' ∧ a'.tmps.size = a.tmps.size) ∧ (kp = true → iN w w')) Q
theorem qK (a : Act) (d : Option Tmp) (v : Value) : (a.put d v).tmps.size = a.tmps.size := by
 cases d <;> simp [Act.put]
theorem ti {P : Program} {w0 : World} {mu : Mu} {c' : Cz} {bf : St} {o : Oper} {a : Act} {w w' : World} {v : Value} {kp : Bool} (hr : (execOp a.eval o).run P w = .ok (.value v) w') (h : Rel w0 mu c' bf (a.put o.dst v) w') (hk : kp = true → iN w w') :
   uI P w0 mu bf o a w kp := by
 intro Q; unfold Oper.wp; rw [hr]; exact ⟨⟨c', h, qK a _ _⟩, hk⟩
theorem qL {P : Program} {s : Sem Value} {w w' : World} {v : Value} (h : s.run P w = .ok v w') : (do pure (Next.value (← s)) : Sem Next).run P w = .ok (.value v) w' := by
 simp [Sem.run_bind, h]
theorem D2 {w0 : World} {mu : Mu} {c : Cz} {st : St} {a : Act} {w : World} (h : Rel w0 mu c st a w) (parts : Array (Nat × Operand)) :
   pD c st w (parts.toList.map fun p => (p.1, lU st p.2)) (parts.map fun (i, x) => (i, a.eval x)).toList := by
 refine ⟨by simp, fun i p u hp hu => ?_⟩; simp only [List.getElem?_map, Array.toList_map] at hp hu
 cases hq : parts.toList[i]? with
 | none => simp [hq] at hp
 | some q =>
   simp only [hq, Option.map_some, Option.some.injEq] at hp hu; subst hp hu; exact ⟨rfl, bH h q.2⟩
theorem Ni {w0 : World} {mu : Mu} {c : Cz} {st : St} {a : Act} {w : World} (h : Rel w0 mu c st a w) (x : Option Operand) : DY c st w (x.map (lU st)) (x.map a.eval) := by
 cases x with
 | none => rfl
 | some x => exact ⟨_, rfl, bH h x⟩
theorem HN {P : Program} {w : World} {ok : Nat → Prop} {u : Value} {ys : List (ar (.cons (.int .u8) .nil))} (h : Rz w ok (.cons (.int .u8) .nil) u ys) : (Conv.bytesToString u).run P w = .ok (.string (bytesOf ys)) w := by
 rcases h with ⟨rfl, rfl⟩ | ⟨a, cap, rfl, hs, hr⟩
 · rfl
 · have key := run_bytesToString (P := P) w a ys.length cap (ys.map GL) (by
     have h1 : ((ys.map GL).map (Value.int .u8)).length = ys.length := by simp
     have h2 := run_loadCells_list (P := P) (w := w) a ((ys.map GL).map (Value.int .u8)) (by
       intro j v hv; rw [List.map_map, List.getElem?_map] at hv
       cases hy : ys[j]? with
       | none => rw [hy] at hv; cases hv
       | some y =>
         rw [hy] at hv; simp only [Option.map_some, Option.some.injEq, Function.comp] at hv; subst hv; have h3 := hr j y hy; unfold dt at h3; obtain ⟨⟨v, h4, h5⟩, _⟩ := h3; have h5 := s8.1 h5; subst h5; have ik : ys ≠ [] := by intro e; rw [e] at hy; simp at hy
         have ss := hs ik; have e : a.add j = ⟨a.block, a.off + j * (RT.cons (.int .u8) .nil).width, none⟩ := by
           simp only [RT.width, Nat.zero_add, Nat.mul_one]; unfold Addr.add
           split
           · rename_i h0; subst h0; obtain ⟨b, o, s⟩ := a; simp at ss; subst ss; rfl
           · rfl
         rw [e]; exact h4)
     rw [h1] at h2; exact h2)
   rw [key]
   congr 2
   unfold bytesOf; rw [List.foldl_map]
def Op.FJ : Op → Bool
 | .call { callee := .value (.func _), .. } => true
 | .call { callee := .value (.tmp _), .. } => true
 | _ => false
theorem D3 {c : Cz} {st : St} {w : World} {x : V} {v : Value} (h : wK c st w x v) : eF c st w x v := by
 cases x with
 | one _ => exact h
 | agg _ => exact h
 | nb _ => exact h.elim
theorem GW {P : Program} {T : la} (hT : gq P T) (hE : wc P T) {S : ld} {w0 : World} {mu : Mu} {c : Cz} {st : St} {a : Act} {w : World} (h : Rel w0 mu c st a w) {o : Oper} (hk : kindOk S st o .any = true)
   {bf : St} (hv : (Fe T S st o).val = some bf) (hd : ∀ k, o.dst = some k → k < a.tmps.size) : ∃ v, (∀ w' : World, (execOp a.eval o).run P w' = .ok (.value v) w') ∧ Rel w0 mu c bf (a.put o.dst v) w := by
 have one : ∀ (v : Value), Rel w0 mu c bf (a.put o.dst v) w → (∀ w' : World, (execOp a.eval o).run P w' = .ok (.value v) w') → ∃ v, (∀ w' : World, (execOp a.eval o).run P w' = .ok (.value v) w') ∧ Rel w0 mu c bf (a.put o.dst v) w :=
   fun v h1 h2 => ⟨v, h2, h1⟩
 unfold Fe at hv; unfold kindOk at hk
 cases ho : o.op with
 | move x =>
   simp only [ho, N.val, Option.some.injEq] at hv; subst hv; exact one _ (h.bj (bH h x) hd) (fun w' => by simp [execOp, ho])
 | assign x =>
   simp only [ho, N.val, Option.some.injEq] at hv; subst hv; exact one _ (h.bj (bH h x) hd) (fun w' => by simp [execOp, ho])
 | pick x y z =>
   simp only [ho] at hv; have hx := bH h x
   cases hq : lU st x with
   | agg _ => simp [hq, N.val] at hv
   | nb _ => simp [hq, N.val] at hv
   | one cx => cases cx with
     | bool b =>
       rw [hq] at hx; have e : a.eval x = .bool b := hx; simp only [hq] at hv; rcases uF hv with ⟨hb, wH⟩ | ⟨hb, wH⟩
       · simp only [N.val, Option.some.injEq] at wH; rw [← wH] at one ⊢; subst hb; exact one _ (h.bj (bH h y) hd) (fun w' => by simp [execOp, ho, e, asBool])
       · simp only [N.val, Option.some.injEq] at wH; rw [← wH] at one ⊢; subst hb; exact one _ (h.bj (bH h z) hd) (fun w' => by simp [execOp, ho, e, asBool])
     | _ => simp [hq, N.val] at hv
 | build t parts =>
   simp only [ho] at hv
   cases hr : T.row t with
   | none => simp [hr, N.val] at hv
   | some r => cases hg : T.agg t with
     | false => simp [hr, hg, N.val] at hv
     | true =>
       simp only [hr, hg] at hv
       cases Yg : oE T t (oC r) (parts.toList.map fun p => (p.1, lU st p.2)) with
       | none => simp [Yg, N.val] at hv
       | some cs =>
         simp only [Yg, N.val, Option.some.injEq] at hv; subst hv; obtain ⟨v, h1, h2⟩ := JZ hT h hr hg (D2 h parts) Yg hd; exact one v (h2) (fun w' => by simp only [execOp, ho]; exact qL (h1 w'))
 | nilCheck x =>
   simp only [ho] at hv; have hx := bH h x
   cases hq : lU st x with
   | agg _ => simp [hq, N.val] at hv
   | nb _ => simp [hq, N.val] at hv
   | one cx => cases cx with
     | ptr b g off =>
       rw [hq] at hx; simp only [hq] at hv
       cases zj : dE st b g with
       | none => simp [zj, N.val] at hv
       | some cs =>
         simp only [zj, N.val, Option.some.injEq] at hv; subst hv; have e := hx.2.2 cs zj; exact one _ (h.bj (v := .one (.ptr b g off)) hx hd) (fun w' => by simp [execOp, ho, e])
     | DJ a' j g i off =>
       rw [hq] at hx; simp only [hq] at hv
       cases hA : bd st a' j g with
       | none => simp [hA, N.val] at hv
       | some A =>
         simp only [hA, N.val, Option.some.injEq] at hv; subst hv; obtain ⟨_, b, o', cap, _, e⟩ := hx.2.2 A hA; exact one _ (h.bj (v := .one (.DJ a' j g i off)) hx hd) (fun w' => by simp [execOp, ho, e])
     | _ => simp [hq, N.val] at hv
 | binOp op t x y t2 =>
   simp only [ho] at hv; obtain ⟨v, h1, h2⟩ := Me hT h (fun t ht l m us vs b op ox oy => hE t ht c st w l m us vs b op ox oy) (ox := x) (oy := y) (bH h x) (bH h y) hv hd; exact one v (h2) (fun w' => by simp only [execOp, ho]; exact qL (h1 w'))
 | unOp op t x =>
   cases op with
   | not =>
     simp only [ho] at hv; have hx := bH h x
     cases hq : lU st x with
     | agg _ => simp [hq, N.val] at hv
     | nb _ => simp [hq, N.val] at hv
     | one cx => cases cx with
       | bool b =>
         rw [hq] at hx; have e : a.eval x = .bool b := hx; simp only [hq, N.val, Option.some.injEq] at hv; subst hv; exact one (.bool (!b)) (h.bj (v := .one (.bool (!b))) rfl hd) (fun w' => by simp [execOp, ho, e, Op.unary])
       | _ => simp [hq, N.val] at hv
   | _ => simp [ho, N.val] at hv
 | convert t1 t2 x =>
   simp only [ho] at hv; have hx := bH h x
   split at hv
   · rename_i k1 k2 k n h1 h2 hq; rw [hq] at hx; have e : a.eval x = .int k n := hx; simp only [N.val, Option.some.injEq] at hv; subst hv; obtain ⟨d1, g1, _⟩ := hT.kind _ _ h1; obtain ⟨d2, g2, e2⟩ := hT.kind _ _ h2; simp only [descOf] at e2; subst e2; refine one (.int k2 (k2.wrap n)) (h.bj (v := .one (.int k2 (k2.wrap n))) rfl hd) (fun w' => ?_); simp only [execOp, ho]; refine qL ?_; simp [convert, run_underlying g1, run_underlying g2, e, Conv.intToInt]
   · rename_i b h1 h2 hq; rw [hq] at hx; have e : a.eval x = .string b := hx; simp only [N.val, Option.some.injEq] at hv; subst hv; obtain ⟨d1, g1, e1⟩ := hT.kind _ _ h1; obtain ⟨d2, g2, e2⟩ := hT.kind _ _ h2; simp only [descOf] at e2 e1; subst e2 e1; refine one (.string b) (h.bj (v := .one (.str b)) rfl hd) (fun w' => ?_); simp only [execOp, ho]; refine qL ?_; simp [convert, run_underlying g1, run_underlying g2, e]
   · rename_i cx _ _ hq; rw [ho] at hk; simp only [hq] at hk
     split at hv
     · cases cx <;> first | (simp [lT, N.val] at hv; done) | (simp at hk; done)
     · simp [N.val] at hv
   · simp [N.val] at hv
 | slice t x lo hi mx =>
   cases mx with
   | some _ => simp [ho, N.val] at hv
   | none =>
     simp only [ho] at hv; obtain ⟨v, h1, h2⟩ := HM hT h (bH h x) (Ni h lo) (Ni h hi) hv hd; exact one v (h2) (fun w' => by simp only [execOp, ho]; exact qL (h1 w'))
 | fieldAddr t x f =>
   simp only [ho] at hv; have hx := bH h x; have place : ∀ (b q k : Nat), T.off t f = some k → a.eval x = .pointer (some ⟨b, q, none⟩) → ∀ w' : World, (execOp a.eval o).run P w' = .ok (.value (.pointer (some ⟨b, q + k, none⟩))) w' := by
     intro b q k hk e w'; obtain ⟨fs, BG, n, g1, g2, g3, g4⟩ := hT.off t f k hk
     cases hi : P.info? BG.type with
     | none => simp [hi] at g4
     | some i =>
       simp only [hi, Option.map_some, Option.some.injEq] at g4; simp only [execOp, ho]; refine qL ?_; subst g3; simp [Instr.fieldAt, run_underlying g1, g2, e, Instr.sureAddr, fieldPlace, sizeOf, typeInfo, hi, g4, Addr.add]
   split at hv
   · rename_i b g off k hq hk; rw [hq] at hx
     cases zj : dE st b g with
     | none => simp [zj, N.val] at hv
     | some cs =>
       simp only [zj, N.val, Option.some.injEq] at hv; subst hv; have e := hx.2.2 cs zj; refine one (.pointer (some ⟨c.bx b, off + k, none⟩)) (h.bj (v := .one (.ptr b g (off + k))) ⟨rfl, hx.2.1, fun nc Fy => rfl⟩ hd) (place _ _ k hk e)
   · rename_i a' j g i off k hq hk; rw [hq] at hx
     cases hA : bd st a' j g with
     | none => simp [hA, N.val] at hv
     | some A =>
       simp only [hA, N.val, Option.some.injEq] at hv; subst hv; obtain ⟨hi, b, o', cap, hl, e⟩ := hx.2.2 A hA; refine one (.pointer (some ⟨b, o' + i * A.r.width + off + k, none⟩)) (h.bj (v := .one (.DJ a' j g i (off + k))) ⟨rfl, hx.2.1, fun A' ew => ?_⟩ hd) (place _ _ k hk e); rw [hA] at ew
       cases ew
       exact ⟨hi, b, o', cap, hl, by rw [Nat.add_assoc]⟩
   · rename_i r y off k hq hk; rw [hq] at hx; simp only [N.val, Option.some.injEq] at hv; subst hv; obtain ⟨b, o', e, h1, h2, h3⟩ := hx; exact one (.pointer (some ⟨b, o' + off + k, none⟩)) (h.bj (v := .one (.k9 r y (off + k))) ⟨b, o', by rw [Nat.add_assoc], h1, h2, h3⟩ hd) (place _ _ k hk e)
   · rename_i r ys off k hq hk; rw [hq] at hx; simp only [N.val, Option.some.injEq] at hv; subst hv; obtain ⟨b, o', e, h1, h2, h3⟩ := hx; exact one (.pointer (some ⟨b, o' + off + k, none⟩)) (h.bj (v := .one (.rM r ys (off + k))) ⟨b, o', by rw [Nat.add_assoc], h1, h2, h3⟩ hd) (place _ _ k hk e)
   · simp [N.val] at hv
 | indexAddr t x i =>
   simp only [ho] at hv; obtain ⟨v, h1, h2⟩ := HK hT h (bH h x) (bH h i) hv hd; exact one v (h2) (fun w' => by simp only [execOp, ho]; exact qL (h1 w'))
 | index t x i =>
   simp only [ho] at hv; have hx := bH h x; have hi := bH h i
   split at hv
   · rename_i s k n h1 Oa JT; rw [Oa] at hx; rw [JT] at hi; have e1 : a.eval x = .string s := hx; have e2 : a.eval i = .int k n := hi; obtain ⟨LO, hv⟩ := fG hv; obtain ⟨Xg, hv⟩ := fG hv; have LO := of_decide_eq_true LO; have Xg := of_decide_eq_true Xg; simp only [N.val, Option.some.injEq] at hv; subst hv; obtain ⟨d1, g1, e3⟩ := hT.kind _ _ h1; simp only [descOf] at e3; subst e3; have dC : n.toNat < s.size := by omega
     have hb : s[n.toNat]? = some s[n.toNat] := getElem?_pos s n.toNat dC; refine one (.int .u8 (Cv s n)) (h.bj (v := .one (.int .u8 (Cv s n))) rfl hd) (fun w' => ?_); simp only [execOp, ho]; refine qL ?_; simp [Instr.index, e1, e2, asIntOf, run_underlying g1, LO, hb, Cv]
   · simp [N.val] at hv
 | field t x f =>
   simp only [ho] at hv; have hx := bH h x
   cases hq : lU st x with
   | one _ => simp [hq, N.val] at hv
   | nb _ => simp [hq, N.val] at hv
   | agg cs =>
     rw [hq] at hx; simp only [hq] at hv
     cases Bl : T.off t f with
     | none => simp [Bl, N.val] at hv
     | some k =>
       simp only [Bl] at hv; obtain ⟨h1, hv⟩ := dJ hv
       cases hn : nth cs k with
       | none => simp [hn, N.val] at hv
       | some u =>
         simp only [hn, N.val, Option.some.injEq] at hv; subst hv; obtain ⟨vs, e, hl, he⟩ := hx; rw [gC] at hn; have dC : k < vs.size := by rw [← Array.length_toList, ← hl]; exact (List.getElem?_eq_some_iff.1 hn).1
         have hg : vs[k]? = some vs[k] := Array.getElem?_eq_getElem dC; obtain ⟨fs, BG, d1, g1, g2, g3, g4⟩ := hT.one t f h1; obtain ⟨fs', aeO, _, RC, Xl, g5, _⟩ := hT.off t f k Bl; rw [g1] at RC; injection RC with RC; injection RC with RC; subst RC; rw [g2] at Xl; injection Xl with Xl; subst Xl; refine one vs[k] (h.bj (v := .one u) (he k u _ hn (by rw [Array.getElem?_toList]; exact hg)) hd) (fun w' => ?_); simp only [execOp, ho]; refine qL ?_; have NT : (isAgg BG.type).run P w' = .ok false w' := by
           unfold isAgg; rw [Sem.run_bind, run_underlying g3 w']
           cases d1 <;> simp_all [TypeDesc.isRow]
         simp [Instr.field, e, run_underlying g1, g2, part, asAgg, NT, g5, hg]
 | extract t i =>
   simp only [ho] at hv; have hx := bH h t
   cases hq : lU st t with
   | one _ => simp [hq, N.val] at hv
   | agg _ => simp [hq, N.val] at hv
   | nb vs =>
     rw [hq] at hx; simp only [hq] at hv
     cases hn : nth vs i with
     | none => simp [hn, N.val] at hv
     | some u =>
       simp only [hn, N.val, Option.some.injEq] at hv; subst hv; obtain ⟨us, e, hl, he⟩ := hx; rw [gC] at hn; have dC : i < us.size := by rw [← hl]; exact (List.getElem?_eq_some_iff.1 hn).1
       have hg : us[i]? = some us[i] := Array.getElem?_eq_getElem dC; refine one us[i] (h.bj (D3 (he i u _ hn hg)) hd) (fun w' => ?_); simp only [execOp, ho]; refine qL ?_; simp [Instr.extract, e, hg]
 | call cl =>
   obtain ⟨callee, args, HO⟩ := cl
   cases callee with
   | invoke r n => simp [ho, N.val] at hv
   | value x =>
     cases x with
     | func f => simp [ho] at hk
     | tmp f => simp [ho] at hk
     | _ => simp [ho, N.val] at hv
   | builtin b =>
     have hx := fun x => bH h x
     simp only [ho] at hv; have GX : ∀ x y, args.toList = [x, y] → args = #[x, y] := fun x y e => by rw [← Array.toArray_toList (xs := args), e]
     split at hv
     · rename_i x t ha ht; have ha : args = #[x] := by rw [← Array.toArray_toList (xs := args), ha]
       have ht : HO = #[t] := by rw [← Array.toArray_toList (xs := HO), ht]
       subst ha ht; obtain ⟨v, h1, h2⟩ := Mf (ty := o.type) hT h (bH h x) hv hd; exact one v (h2) (fun w' => by simp only [execOp, ho]; simp [resolve, invoke, builtin, Sem.run_bind, h1 w'])
     · rename_i x y t u ha ht; simp [ho] at hk
     · rename_i ts x y ha; have ha := GX x y ha; subst ha
       split at hv
       · rename_i k p l q Oa JT; have e1 := bH h x; have e2 := bH h y; rw [Oa] at e1; rw [JT] at e2; have e1 : a.eval x = .int k p := e1; have e2 : a.eval y = .int l q := e2; simp only [N.val, Option.some.injEq] at hv; subst hv; exact one _ (h.bj (v := .one (.int k (if q < p then q else p))) (u := .int k (if q < p then q else p)) rfl hd) (fun w' => by simp only [execOp, ho]; simp [resolve, invoke, builtin, Sem.run_bind, Builtin.min_, Builtin.min2, e1, e2])
       · simp [N.val] at hv
     · rename_i ts x y ha; have ha := GX x y ha; subst ha
       split at hv
       · rename_i k p l q Oa JT; have e1 := bH h x; have e2 := bH h y; rw [Oa] at e1; rw [JT] at e2; have e1 : a.eval x = .int k p := e1; have e2 : a.eval y = .int l q := e2; simp only [N.val, Option.some.injEq] at hv; subst hv; exact one _ (h.bj (v := .one (.int k (if q > p then q else p))) (u := .int k (if q > p then q else p)) rfl hd) (fun w' => by simp only [execOp, ho]; simp [resolve, invoke, builtin, Sem.run_bind, Builtin.max_, Builtin.max2, e1, e2])
       · simp [N.val] at hv
     · rename_i ts x y z ha; have ha : args = #[x, y, z] := by rw [← Array.toArray_toList (xs := args), ha]
       subst ha
       split at hv
       · rename_i k p l q m s Oa JT SU; have e1 := bH h x; have e2 := bH h y; have e3 := bH h z; rw [Oa] at e1; rw [JT] at e2; rw [SU] at e3; have e1 : a.eval x = .int k p := e1; have e2 : a.eval y = .int l q := e2; have e3 : a.eval z = .int m s := e3; simp only [N.val, Option.some.injEq] at hv; subst hv; exact one _ (h.bj (v := .one (.int k (if s < (if q < p then q else p) then s else (if q < p then q else p)))) (u := .int k (if s < (if q < p then q else p) then s else (if q < p then q else p))) rfl hd) (fun w' => by simp only [execOp, ho]; simp [resolve, invoke, builtin, Sem.run_bind, Builtin.min_, Builtin.min2, e1, e2, e3])
       · simp [N.val] at hv
     · simp [N.val] at hv
 | _ => simp [ho] at hk
theorem Ob {P : Program} {T : la} (hT : gq P T) (hE : wc P T) {S : ld} {w0 : World} {mu : Mu} {c : Cz} {st : St} {a : Act} {w : World} (h : Rel w0 mu c st a w) {o : Oper} (hf : Op.FJ o.op = false) (ss : DL st o = false)
   {bf : St} (hv : (Fe T S st o).val = some bf) (hd : ∀ k, o.dst = some k → k < a.tmps.size) : uI P w0 mu bf o a w (kindOk S st o .one) := by
 by_cases hp : kindOk S st o .any = true
 · obtain ⟨v, h1, h2⟩ := GW hT hE h hp hv hd; exact ti (h1 w) h2 (fun _ => iN.refl w)
 have one : ∀ (v : Value) (w' : World), (∃ c', Rel w0 mu c' bf (a.put o.dst v) w') → iN w w' → (execOp a.eval o).run P w = .ok (.value v) w' → uI P w0 mu bf o a w (kindOk S st o .one) :=
   fun v w' ⟨c', h'⟩ hk hr => ti hr h' (fun _ => hk)
 unfold kindOk at hp; unfold Fe at hv
 cases ho : o.op with
 | alloc t =>
   simp only [ho] at hv
   cases hr : T.row t with
   | none => simp [hr, N.val] at hv
   | some r =>
     simp only [hr] at hv; obtain ⟨k, s0, hk, jy, rfl⟩ := yF hv; obtain ⟨i, z, hi, hz, HH⟩ := hT.row t r hr; refine one _ _ ⟨_, hk ▸ h.iL (ty := t) jy (hd k hk) (uH HH)⟩ (iN.alloc _ _) ?_; simp [execOp, ho, Instr.alloc, zeroValue, typeInfo, hi, hz, newVar, newRow]
 | box t x =>
   simp only [ho] at hv
   cases hn : T.cells t with
   | none => simp [hn, N.val] at hv
   | some n =>
     simp only [hn] at hv; obtain ⟨hc, hv⟩ := dJ hv; rw [Bool.and_eq_true] at hc; obtain ⟨sB, _⟩ := (bH h x).cells hc.1
     cases m9 : (bif T.cap t then ec (lU st x).cells else none) with
     | none =>
       rw [m9] at hv; obtain ⟨k, s0, hk, jy, rfl⟩ := yF hv; refine one _ _ ⟨_, hk ▸ h.iL (ty := t) jy (hd k hk) sB⟩ (iN.alloc _ _) ?_; simp [execOp, ho, Instr.box, newVar, newRow]
     | some p =>
       obtain ⟨r, y⟩ := p; rw [m9] at hv; simp only [N.val, Option.some.injEq] at hv; subst hv; have Yh : ec (lU st x).cells = some ⟨r, y⟩ := by
         cases hcp : T.cap t with
         | true => rw [hcp] at m9; exact m9
         | false => rw [hcp] at m9; cases m9
       have Ah : c.ok w.heap.size := by
         unfold Cz.ok
         cases hq : c.own w.heap.size with
         | none => rfl
         | some l => exact absurd (h.owned _ l hq).1 (Nat.lt_irrefl _)
       have ud : eF c st (w.alloc (.cells (a.eval x).cells t (0, 0))) (.one (.k9 r y 0)) (.pointer (some ⟨w.heap.size, 0, none⟩)) :=
         ⟨w.heap.size, 0, rfl, by simp, Ah, mP (Fw.grow h _).stays _ Yh _ 0 sB fun i v hv => by
           rw [Nat.zero_add]; exact DZ (heap_alloc_new w _) hv⟩
       refine one (.pointer (some ⟨w.heap.size, 0, none⟩)) (w.alloc (.cells (a.eval x).cells t (0, 0))) ⟨c, (h.grow _).bj ud hd⟩ (iN.alloc _ _) ?_; simp [execOp, ho, Instr.box, newVar, newRow]
 | makeFunc fn first uu =>
   cases fn with
   | func g =>
     simp only [ho] at hv; obtain ⟨Yi, hv⟩ := dJ hv
     cases hc : vL st uu.toList with
     | none => simp [hc, N.val] at hv
     | some p =>
       obtain ⟨zi, rs, x⟩ := p; rw [hc] at hv; simp only [N.val, Option.some.injEq] at hv; subst hv; obtain ⟨c1, h1, h2, h3⟩ := D0 _ h hc; have hf0 : first = #[] := by simpa using Yi
       subst hf0; have ud : eF c1 zi w (.one (.fn g rs [x])) (.func (.func g) #[] (uu.map a.eval)) :=
         ⟨_, rfl, fun y hy => by
           simp at hy; subst hy; rw [Array.toList_map]; exact h3⟩
       exact one _ w ⟨c1, h1.bj ud hd⟩ (iN.refl w) (by simp [execOp, ho, Instr.makeFunc])
   | _ => simp [ho, N.val] at hv
 | buildSlice t len parts =>
   simp only [ho] at hv; obtain ⟨v, w', h1, Mi, c', h2⟩ := Ad hT h (D2 h parts) hv hd; exact one v w' ⟨c', h2⟩ Mi (by simp only [execOp, ho]; exact qL h1)
 | makeSlice t l cp =>
   simp only [ho] at hv; obtain ⟨v, w', h1, Mi, c', h2⟩ := JX hT h (bH h l) (bH h cp) hv hd; exact one v w' ⟨c', h2⟩ Mi (by simp only [execOp, ho]; exact qL h1)
 | load t x =>
   simp only [ho] at hv; obtain ⟨v, h1, h2⟩ := DM hT h (bH h x) hv hd; exact one v w ⟨c, h2⟩ (iN.refl w) (by simp only [execOp, ho]; exact qL (h1 w (iN.refl w)))
 | store t x y =>
   simp only [ho] at hv
   cases ue : o.dst with
   | some _ => simp [ue, N.val] at hv
   | none =>
     simp only [ue] at hv; obtain ⟨w', h1, c', h2⟩ := HF hT h (bH h x) (bH h y) hv; intro Q; have hr : (execOp a.eval o).run P w = .ok .skip w' := by simp [execOp, ho, Sem.run_bind, h1]
     unfold Oper.wp; rw [hr]; refine ⟨⟨c', ?_, qK a _ _⟩, fun hk => ?_⟩
     · rw [ue]; exact h2
     · simp [kindOk, ho] at hk
 | call cl =>
   obtain ⟨callee, args, HO⟩ := cl
   cases callee with
   | invoke r n => simp [ho, N.val] at hv
   | value x =>
     cases x with
     | func f => simp [ho, Op.FJ] at hf
     | tmp f => simp [ho, Op.FJ] at hf
     | _ => simp [ho, N.val] at hv
   | builtin b =>
     simp only [ho] at hv; have GX : ∀ x y, args.toList = [x, y] → args = #[x, y] := fun x y e => by rw [← Array.toArray_toList (xs := args), e]
     split at hv
     · simp [ho] at hp
     · rename_i x y t u ha ht; obtain ⟨Oc, wH⟩ := dJ hv; have Oc := Nat.eq_of_beq_eq_true Oc; subst Oc; have ha := GX x y ha; have ht : HO = #[t, t] := by rw [← Array.toArray_toList (xs := HO), ht]
       subst ha ht; have Jq : mi st [(.io, lU st x)] = none := by
         unfold DL at ss; simp only [ho] at ss
         cases hq : mi st [(.io, lU st x)] with
         | none => rfl
         | some _ => rw [hq] at ss; cases ss
       unfold Cy at wH; rw [Jq] at wH; obtain ⟨v, w', h1, c', h2⟩ := Ab (ty := o.type) hT h (bH h x) (bH h y) wH hd; exact ti (c' := c') (by simp only [execOp, ho]; simp [resolve, invoke, builtin, Sem.run_bind, h1]) h2 (fun hk => by simp [kindOk, ho] at hk)
     · simp [ho] at hp
     · simp [ho] at hp
     · simp [ho] at hp
     · simp [N.val] at hv
 | move _ => simp [ho] at hp
 | assign _ => simp [ho] at hp
 | pick _ _ _ => simp [ho] at hp
 | build _ _ => simp [ho] at hp
 | nilCheck _ => simp [ho] at hp
 | binOp _ _ _ _ _ => simp [ho] at hp
 | unOp _ _ _ => simp [ho] at hp
 | convert t1 t2 x =>
   simp only [ho] at hv hp; have hx := bH h x
   split at hv
   · rename_i hq; simp [hq] at hp
   · rename_i hq; simp [hq] at hp
   · rename_i cx h1 h2 hq
     split at hv
     · rename_i b he; rw [hq] at hx; obtain ⟨ys, h3, h4⟩ := yE h hx hv; simp only [N.val, Option.some.injEq] at h3; subst h3; obtain ⟨e, i, z, g1, g2, g3, g4, g5, _⟩ := hT.elem _ _ _ he; obtain ⟨d2, q2, e2⟩ := hT.kind _ _ h2; simp only [descOf] at e2; subst e2; have hu8 : P.underlying e = some (.int .u8) := hT.u8 t1 e b he g1; have hr := HN (P := P) h4; refine one (.string (bytesOf ys)) w ⟨c, h.bj (v := .one (.str (bytesOf ys))) rfl hd⟩ (iN.refl w) ?_; simp only [execOp, ho]; refine qL ?_; rcases h4 with ⟨hn, _⟩ | ⟨a0, cap, hn, _⟩
       · rw [hn] at hr ⊢; rw [run_convert_bytes_string w t1 t2 e none 0 0 g1 hu8 q2]; exact hr
       · rw [hn] at hr ⊢; rw [run_convert_bytes_string w t1 t2 e (some a0) _ cap g1 hu8 q2]; exact hr
     · simp [N.val] at hv
   · simp [N.val] at hv
 | slice _ _ _ _ _ => simp [ho] at hp
 | fieldAddr _ _ _ => simp [ho] at hp
 | indexAddr _ _ _ => simp [ho] at hp
 | index _ _ _ => simp [ho] at hp
 | extract _ _ => simp [ho] at hp
 | field _ _ _ => simp [ho] at hp
 | _ => simp [ho, N.val] at hv
end Go.TM
namespace Go.TM
open Go Go.RowKit
def tj (P : Program) (T : la) (S : ld) (w0 : World) (mu : Mu) (n : Nat) : Prop :=
 ∀ {c : Cz} {st bf : St} {a : Act} {w : World} {o : Oper}, Rel w0 mu c st a w → a.tmps.size = n → (∀ k, o.dst = some k → k < n) → (Fe T S st o).val = some bf → uI P w0 mu bf o a w (kindOk S st o .one)
theorem Ai (a : Act) (d : Nat) (v : Value) (hd : d < a.tmps.size) (h : a.eval (.tmp d) = v) : a.put (some d) v = a := by
 obtain ⟨tm, df⟩ := a; simp only [Act.put, Act.mk.injEq, and_true]; simp only [Act.eval, Array.getD_eq_getD_getElem?, Array.getElem?_eq_getElem hd, Option.getD_some] at h; apply Array.ext
 · simp
 · intro i h1 h2; rw [Array.getElem_setIfInBounds h2]
   split
   · rename_i e; subst e; exact h.symm
   · rfl
theorem vp {w0 : World} {mu : Mu} {c : Cz} {st : St} {a : Act} {w : World} (h : Rel w0 mu c st a w) {d : Nat} {b : Bool} (hg : cz st d = .one (.bool b)) :
   d < a.tmps.size ∧ a.eval (.tmp d) = .bool b := by
 have h1 := h.fp d; rw [hg] at h1; have h1 : a.eval (.tmp d) = .bool b := h1; refine ⟨?_, h1⟩; rcases Nat.lt_or_ge d a.tmps.size with h2 | h2
 · exact h2
 · simp [Act.eval, Array.getD_eq_getD_getElem?, Array.getElem?_eq_none h2, undef] at h1
theorem Rel.SV {w0 : World} {mu : Mu} {c : Cz} {st : St} {a : Act} {w : World} (h : Rel w0 mu c st a w) {d : Nat} {b : Bool} (hg : cz st d = .one (.bool b)) :
   Rel w0 mu c (TM.bj st (some d) (.one (.bool b))) a w := by
 obtain ⟨h1, h2⟩ := vp h hg; have := h.bj (d := some d) (v := .one (.bool b)) (u := .bool b) rfl (fun t e => by cases e; exact h1)
 rwa [Ai a d _ h1 h2] at this
theorem Aj {ops : Array Oper} {a : Act} {j d : Nat} {b : Bool} (hj : (nth ops.toList j).bind (·.dst) = some d) (hd : d < a.tmps.size) (h : a.eval (.tmp d) = .bool b) : yielded ops a.tmps j = some b := by
 rw [gC, Array.getElem?_toList] at hj; unfold yielded; rw [hj]; simp only [Act.eval, Array.getD_eq_getD_getElem?, Array.getElem?_eq_getElem hd, Option.getD_some] at h; simp [Array.getElem?_eq_getElem hd, h]
theorem vq : (st : St) → (d : Nat) → {v : V} → cz st d = v → TM.bj st (some d) v = st
 | [], _, _, _ => rfl
 | s :: l, 0, v, h => by
   have h : s.v = v := h; subst h; rfl
 | s :: l, d + 1, v, h => congrArg (s :: ·) (vq l d h)
theorem D4 {S : ld} {st : St} {o : Oper} {d : Nat} {b : Bool} {k : Kd} (h : cz st d = .one (.bool b)) : kindOk S (TM.bj st (some d) (.one (.bool b))) o k = kindOk S st o k := by
 rw [vq st d h]
theorem vr (c : Cz) (st : St) (w : World) : eF c st w (.nb []) undef := ⟨#[], rfl, rfl, fun i x y hx => by simp at hx⟩
theorem vP {ops : Array Oper} {a : Act} {j d : Nat} (hj : (nth ops.toList j).bind (·.dst) = some d) (h : a.eval (.tmp d) = undef) : yielded ops a.tmps j = none := by
 rw [gC, Array.getElem?_toList] at hj; unfold yielded; rw [hj]; simp only [Act.eval, Array.getD_eq_getD_getElem?] at h
 cases ht : a.tmps[d]? with
 | none => simp [ht]
 | some v =>
   rw [ht] at h; simp only [Option.getD_some] at h; subst h; simp [ht, undef]
theorem Ak {w0 : World} {mu : Mu} {c : Cz} {st : St} {a : Act} {w : World} (h : Rel w0 mu c st a w) {d : Nat} (hg : cz st d = .nb []) : a.eval (.tmp d) = undef := by
 have h1 := h.fp d; rw [hg] at h1; obtain ⟨vs, e, hl, _⟩ := h1; have : vs = #[] := Array.eq_empty_of_size_eq_zero hl.symm; rw [e, this]; rfl
theorem D5 {P : Program} {T : la} {S : ld} {w0 : World} {mu : Mu} {n : Nat} (DG : tj P T S w0 mu n) {c : Cz} {st bf : St} {a : Act} {w : World} {ops : Array Oper} {o : Oper} (h : Rel w0 mu c st a w) (hn : a.tmps.size = n)
   (hd : ∀ k, o.dst = some k → k < n) (hv : (xO T S ops.toList st o).val = some bf) :
   (Region.wanted o (yielded ops a.tmps) = true ∧ uI P w0 mu bf o a w (kindOk S st o .one)) ∨ (Region.wanted o (yielded ops a.tmps) = false ∧ Rel w0 mu c bf (a.put o.dst undef) w) := by
 unfold xO at hv; unfold Region.wanted
 cases hg : o.guard with
 | none =>
   simp only [hg] at hv ⊢; exact .inl ⟨trivial, DG h hn hd hv⟩
 | some p =>
   obtain ⟨j, want⟩ := p; simp only [hg] at hv ⊢
   cases hj : (nth ops.toList j).bind (·.dst) with
   | none => simp [hj, N.val] at hv
   | some d =>
     simp only [hj] at hv
     split at hv
     · rename_i b J3; obtain ⟨h1, h2⟩ := vp h J3; have hy := Aj (ops := ops) hj h1 h2; rw [hy]; have hk := h.SV J3; have yes : (Fe T S (TM.bj st (some d) (.one (.bool b))) o).val = some bf → uI P w0 mu bf o a w (kindOk S st o .one) := fun e => (D4 J3) ▸ DG hk hn hd e
       have no : (N.done (TM.bj (TM.bj st (some d) (.one (.bool b))) o.dst (.nb []))).val = some bf → Rel w0 mu c bf (a.put o.dst undef) w := by
         intro e; simp only [N.val, Option.some.injEq] at e; subst e; exact hk.bj (vr _ _ _) (fun k Bl => by rw [hn]; exact hd k Bl)
       rcases uF hv with ⟨hb, wH⟩ | ⟨hb, wH⟩
       · subst hb
         cases want
         · exact .inr ⟨rfl, no wH⟩
         · exact .inl ⟨rfl, yes wH⟩
       · subst hb
         cases want
         · exact .inl ⟨rfl, yes wH⟩
         · exact .inr ⟨rfl, no wH⟩
     · rename_i J3; simp only [N.val, Option.some.injEq] at hv; subst hv; rw [vP (ops := ops) hj (Ak h J3)]; exact .inr ⟨by cases want <;> rfl, h.bj (vr _ _ _) (fun k Bl => by rw [hn]; exact hd k Bl)⟩
     · simp [N.val] at hv
def we (n : Nat) (ops : List Oper) : Bool := ops.all fun o => match o.dst with | some k => Nat.blt k n | none => true
theorem xS {n : Nat} {ops : List Oper} (h : we n ops = true) {o : Oper} (ho : o ∈ ops) : ∀ k, o.dst = some k → k < n := by
 intro k hk; have := List.all_eq_true.1 h o ho; rw [hk] at this; exact Nat.le_of_ble_eq_true this
def Next {R : Type} (w0 : World) (mu : Mu) (n : Nat) (r : R) (k : St → Option R) (K : Act → World → Prop) : Prop :=
 ∀ {c : Cz} {st : St} {a : Act} {w : World}, Rel w0 mu c st a w → a.tmps.size = n → k st = some r → K a w
theorem CL {R : Type} {P : Program} {T : la} {S : ld} {w0 : World} {mu : Mu} {n : Nat} (DG : tj P T S w0 mu n) {ops : Array Oper} {Q : Exit → Act → World → Prop} {k : St → Option R} {r : R} (hk : Next w0 mu n r k (Q .normal)) :
   (l : List Oper) → we n l = true → {c : Cz} → {st : St} → {a : Act} → {w : World} → Rel w0 mu c st a w → a.tmps.size = n → L2 T S ops.toList l st k = some r → wpList P ops Q l a w
 | [], _, _, _, _, _, h, hn, hv => hk h hn hv
 | o :: l, hl, c, st, a, w, h, hn, hv => by
   unfold L2 at hv; rw [N.fold_eq] at hv; obtain ⟨bf, h1, h2⟩ := Option.bind_eq_some_iff.1 hv; have hd := xS hl (o := o) List.mem_cons_self; have um : we n l = true := by
     unfold we at hl ⊢; rw [List.all_cons, Bool.and_eq_true] at hl; exact hl.2
   refine wpList_step fun K hK => ?_
   rcases D5 DG h hn hd h1 with ⟨hw, hs⟩ | ⟨hw, hs⟩
   · rw [if_pos hw]; refine Oper.wp_mono (fun a' w' ⟨⟨c', hr, mj⟩, _⟩ => hK a' w' ?_) (hs Q); exact CL DG hk l um hr (mj.trans hn) h2
   · rw [if_neg (by rw [hw]; decide)]; exact hK _ _ (CL DG hk l um hs ((qK _ _ _).trans hn) h2)
def Ex.go : Ex → Exit
 | .normal => .normal
 | .exit n => .exit n
 | .ret => .ret
def J4 {R : Type} (w0 : World) (mu : Mu) (n : Nat) (r : R) (k : Ex → St → Option R) (Q : Exit → Act → World → Prop) : Prop :=
 ∀ {e : Ex} {c : Cz} {st : St} {a : Act} {w : World}, Rel w0 mu c st a w → a.tmps.size = n → k e st = some r → Q e.go a w
def ja (n : Nat) : Code → Bool
 | .region _ ops _ => we n ops.toList
 | .seq a b => ja n a && ja n b
 | .cond _ a b => ja n a && ja n b
 | .block _ a => ja n a
 | .loop a => ja n a
 | _ => true
def oJ {R : Type} (P : Program) (w0 : World) (mu : Mu) (n : Nat) (L : p9 R) (r : R) (id : Nat) (b : Code) : Prop :=
 ∀ {k : Ex → St → Option R} {Q : Exit → Act → World → Prop}, J4 w0 mu n r k Q → ∀ {c : Cz} {st : St} {a : Act} {w : World}, Rel w0 mu c st a w → a.tmps.size = n →
   L id b st k = some r → (Code.block id (.loop b)).wp P Q a w
def fq (ok : Nat → Code → Prop) : Code → Prop
 | .seq a b => fq ok a ∧ fq ok b
 | .cond _ a b => fq ok a ∧ fq ok b
 | .block id (.loop b) => ok id b
 | .block _ a => fq ok a
 | _ => True
def sC (R : Type) (P : Program) (T : la) (S : ld) (D : mL) (w0 : World) (mu : Mu) (n : Nat) (ok : Nat → Array Oper → Prop) : Prop :=
 ∀ {id : Nat} {ops : Array Oper} {Q : Exit → Act → World → Prop} {k : St → Option R} {r : R}, ok id ops → we n ops.toList = true → Next w0 mu n r k (Q .normal) → ∀ {c : Cz} {st : St} {a : Act} {w : World}, Rel w0 mu c st a w → a.tmps.size = n →
   rO T S ops.toList (D id) st k = some r → (Code.region id ops true).wp P Q a w
def fH (ok : Nat → Array Oper → Prop) : Code → Prop
 | .region id ops true => ok id ops
 | .seq a b => fH ok a ∧ fH ok b
 | .cond _ a b => fH ok a ∧ fH ok b
 | .block _ (.loop _) => True
 | .block _ a => fH ok a
 | _ => True
theorem D6 {R : Type} {P : Program} {T : la} {S : ld} {D : mL} {L : p9 R} {w0 : World} {mu : Mu} {n : Nat} {r : R} {ok : Nat → Array Oper → Prop} (DG : tj P T S w0 mu n) (hD : sC R P T S D w0 mu n ok) :
   (cd : Code) → ja n cd = true → fq (oJ P w0 mu n L r) cd → fH ok cd → {k : Ex → St → Option R} → {Q : Exit → Act → World → Prop} → J4 w0 mu n r k Q →
   {c : Cz} → {st : St} → {a : Act} → {w : World} → Rel w0 mu c st a w → a.tmps.size = n → fU T S D L cd st k = some r → cd.wp P Q a w := by
 intro cd
 induction cd with
 | skip =>
   intro _ _ _ k Q hk c st a w h hn hv; unfold fU at hv; exact wp_skip (hk h hn hv)
 | region id ops draw =>
   intro hd hL hw k Q hk c st a w h hn hv
   cases draw with
   | false =>
     unfold fU at hv; exact wp_region_list (CL DG (Q := Q) (k := fun bf => k .normal bf) (fun h1 h2 h3 => hk h1 h2 h3) ops.toList hd h hn hv)
   | true =>
     unfold fU at hv; exact hD hw hd (k := fun bf => k .normal bf) (fun h1 h2 h3 => hk h1 h2 h3) h hn hv
 | seq x y ihx Yj =>
   intro hd hL hw k Q hk c st a w h hn hv; unfold fU at hv; unfold ja at hd; rw [Bool.and_eq_true] at hd; refine wp_seq (ihx hd.1 hL.1 hw.1 (fun {e} {c} {st} {a} {w} h1 h2 h3 => ?_) h hn hv)
   cases e with
   | normal => exact Yj hd.2 hL.2 hw.2 hk h1 h2 h3
   | exit m => exact hk h1 h2 h3
   | ret => exact hk h1 h2 h3
 | cond x y z Yj ihz =>
   intro hd hL hw k Q hk c st a w h hn hv; unfold ja at hd; rw [Bool.and_eq_true] at hd
   cases x with
   | tmp t =>
     unfold fU at hv
     split at hv
     · rename_i b hg; obtain ⟨_, h2⟩ := vp h hg; have hkn := h.SV hg
       cases b with
       | true => exact wp_cond_true h2 (Yj hd.1 hL.1 hw.1 hk hkn hn hv)
       | false => exact wp_cond_false h2 (ihz hd.2 hL.2 hw.2 hk hkn hn hv)
     · cases hv
   | _ => unfold fU at hv; cases hv
 | block id b ih =>
   intro hd hL hw k Q hk c st a w h hn hv
   by_cases hb : ∃ b', b = .loop b'
   · obtain ⟨b', rfl⟩ := hb; unfold fU at hv; exact hL hk h hn hv
   · have qc : fU T S D L b st (fun e bf => match e with
         | .exit n => bif Nat.beq n id then k .normal bf else k (.exit n) bf
         | e => k e bf) = some r := by
       cases b with
       | loop b' => exact absurd ⟨b', rfl⟩ hb
       | _ => unfold fU at hv; exact hv
     have hw' : fH ok b := by
       cases b with
       | loop b' => exact absurd ⟨b', rfl⟩ hb
       | _ => unfold fH at hw; exact hw
     have hL' : fq (oJ P w0 mu n L r) b := by
       cases b with
       | loop b' => exact absurd ⟨b', rfl⟩ hb
       | _ => unfold fq at hL; exact hL
     refine wp_block (ih hd hL' hw' (fun {e} {c} {st} {a} {w} h1 h2 h3 => ?_) h hn qc)
     cases e with
     | normal => exact hk h1 h2 h3
     | ret => exact hk h1 h2 h3
     | exit m =>
       simp only at h3; unfold Exit.inBlock; simp only [Ex.go]
       cases hm : Nat.beq m id with
       | true =>
         rw [hm] at h3; rw [if_pos (Nat.eq_of_beq_eq_true hm)]; exact hk h1 h2 h3
       | false =>
         rw [hm] at h3; rw [if_neg (Nat.ne_of_beq_eq_false hm)]; exact hk (e := .exit m) h1 h2 h3
 | exit id =>
   intro _ _ _ k Q hk c st a w h hn hv; unfold fU at hv; exact wp_exit (hk h hn hv)
 | ret =>
   intro _ _ _ k Q hk c st a w h hn hv; unfold fU at hv; exact wp_ret (hk h hn hv)
 | _ =>
   intro _ _ _ k Q hk c st a w h hn hv; unfold fU at hv
   cases hv
end Go.TM
namespace Go.TM
open Go Go.RowKit
def OwnAt (c : Cz) (w : World) (l : Lb) (lc : Loc) (A : ig) (v : Value) : Prop :=
 v.oneCell' = true ∧ jx lc A.r.width 0 A.xs.length v ∧ A.own = true ∧
 match lc with
 | .nil => A.xs = []
 | .at b off cap => c.own b = some l ∧ A.xs.length ≤ cap ∧ (∃ cur ty, w.heap[b]? = some (.cells cur ty (0, 0)) ∧ off + cap * A.r.width ≤ cur.size) ∧
     cg c w l A b off
def bI (c : Cz) (w : World) (f : Nat → Lb) : (j : Nat) → List OV → List Value → Prop
 | _, [], vs => vs = []
 | j, .int k n :: os, vs => ∃ l, vs = .int k n :: l ∧ bI c w f (j + 1) os l
 | j, .bool b :: os, vs => ∃ l, vs = .bool b :: l ∧ bI c w f (j + 1) os l
 | j, .str s :: os, vs => ∃ l, vs = .string s :: l ∧ bI c w f (j + 1) os l
 | j, .ea :: os, vs => ∃ l, vs = .slice none 0 0 :: l ∧ bI c w f (j + 1) os l
 | j, .shr r xs :: os, vs => ∃ v l, vs = v :: l ∧ cr w c.ok (.sl r) v xs ∧ bI c w f (j + 1) os l
 | j, .own A :: os, vs => ∃ v l, vs = v :: l ∧ (∃ lc, OwnAt c w (f j) lc A v) ∧ bI c w f (j + 1) os l
 | j, .k9 r xs :: os, vs => ∃ v l, vs = v :: l ∧ BF w c.ok r v xs ∧ bI c w f (j + 1) os l
 | j, .fn g rs xs :: os, vs => ∃ v l, vs = v :: l ∧ FnAt w c.ok g rs v xs ∧ bI c w f (j + 1) os l
def BO (c : Cz) (w : World) (i : Nat) (os : List OV) (v : Value) : Prop :=
 ∃ od vs ty, v = .pointer (some ⟨od, 0, none⟩) ∧ c.own od = some (.su i) ∧ w.heap[od]? = some (.cells vs ty (0, 0)) ∧ bI c w (.cI i) 0 os vs.toList
def J5 (c : Cz) (w : World) (i : Nat) (lc : Nat → Loc) (j : Nat) (o : OV) (u : Value) : Prop :=
 match o with
 | .own A => OwnAt c w (.cI i j) (lc j) A u
 | .ea => lc j = .nil
 | _ => True
def ru (c : Cz) (w : World) (i : Nat) (lc : Nat → Loc) : AV → Value → Prop
 | .val false os, v => bI c w (.cI i) 0 os [v]
 | .val true os, v => ∃ vs, v = .agg vs ∧ bI c w (.cI i) 0 os vs.toList
 | .io A, v => OwnAt c w (.cI i 0) (lc 0) A v
 | .box os, v => BO c w i os v
 | .bQ os, v => ∃ vs, v = .agg vs ∧ bI c w (.cI i) 0 os vs.toList ∧ ∀ j o u, os[j]? = some o → vs.toList[j]? = some u → J5 c w i lc j o u
def wg (c : Cz) (w : World) (lc : Nat → Nat → Loc) : (i : Nat) → List AV → List Value → Prop
 | _, [], vs => vs = []
 | i, a :: as, vs => ∃ v l, vs = v :: l ∧ ru c w i (lc i) a v ∧ wg c w lc (i + 1) as l
def GY (c : Cz) (w : World) (i : Nat) (lc : Nat → Loc) (os : List OV) (us : List Value) (As : List (Option ig)) : Prop :=
 ∀ j A, os[j]? = some (.own A) → ∃ B u, nth As j = some (some B) ∧ us[j]? = some u ∧ B.r.width = A.r.width ∧ B.xs.length = A.xs.length ∧ OwnAt c w (.cI i j) (lc j) B u
def jO (c : Cz) (w : World) (lc : Nat → Nat → Loc) : (i : Nat) → List AV → List Value → List XV → Prop
 | _, [], _, xs => xs = []
 | _, _ :: _, [], _ => False
 | i, .val _ _ :: as, _ :: vs, xs => jO c w lc (i + 1) as vs xs
 | i, .io A :: as, v :: vs, xs => ∃ B l, xs = .io B :: l ∧ B.r.width = A.r.width ∧ B.xs.length = A.xs.length ∧ OwnAt c w (.cI i 0) (lc i 0) B v ∧ jO c w lc (i + 1) as vs l
 | i, .box _ :: as, v :: vs, xs => ∃ os l, xs = .box os :: l ∧ BO c w i os v ∧ jO c w lc (i + 1) as vs l
 | i, .bQ os :: as, v :: vs, xs => ∃ As l, xs = .bQ As :: l ∧ (∃ us, v = .agg us ∧ GY c w i (lc i) os us.toList As) ∧ jO c w lc (i + 1) as vs l
def lE (c : Cz) (w : World) : (j : Nat) → List RV → List Value → Prop
 | _, [], vs => vs = []
 | j, .one o :: rs, vs => ∃ v l, vs = v :: l ∧ bI c w .jw j [o] [v] ∧ lE c w (j + 1) rs l
 | j, .agg os :: rs, vs => ∃ us l, vs = .agg us :: l ∧ bI c w .jw j os us.toList ∧ lE c w (j + os.length) rs l
 | j, .ptr os :: rs, vs => ∃ v l, vs = v :: l ∧ (∃ od us ty, v = .pointer (some ⟨od, 0, none⟩) ∧ c.own od = some (.jw j) ∧ w.heap[od]? = some (.cells us ty (0, 0)) ∧ bI c w .jw (j + 1) os us.toList) ∧ lE c w (j + (os.length + 1)) rs l
def uJ (c : Cz) (w : World) (rs : List RV) (v : Value) : Prop :=
 (∃ r, rs = [r] ∧ lE c w 0 [r] [v]) ∨ (rs.length ≠ 1 ∧ ∃ vs, v = .tuple vs ∧ lE c w 0 rs vs.toList)
structure HP (w0 : World) (mu : Mu) (c : Cz) (w : World) : Prop where
 owned : ∀ b l, c.own b = some l → b < w.heap.size ∧ (l = .out ∨ w0.heap.size ≤ b ∨ mu.m b)
 free : ∀ b, b < w0.heap.size → c.own b = none → mu.m b ∨ mu.ok b
 kept : w.os = w0.os ∧ w.tape = w0.tape ∧ w.output = w0.output ∧ w0.heap.size ≤ w.heap.size
 old : ∀ k, k < w0.heap.size → ¬ mu.m k → w.heap[k]? = w0.heap[k]?
def Lb.j9 : Lb → Bool
 | .cI _ _ => true
 | .su _ => true
 | _ => false
structure Handed (c : Cz) (w : World) (mu : Mu) : Prop where
 m : ∀ b, mu.m b ↔ ∃ l, c.own b = some l ∧ l.j9 = true
 ok : ∀ b, mu.ok b ↔ c.own b = none
 lt : ∀ b l, c.own b = some l → b < w.heap.size
 lb : ∀ b l, c.own b = some l → l = .out ∨ l.j9 = true
def FnOk (P : Program) (f : FuncId) (yy : vW) : Prop :=
 ∀ (c : Cz) (w : World) (mu : Mu) (lc : Nat → Nat → Loc) (eA : List AV) (args : Array Value) (A : Ans) (x : ar A.r), Handed c w mu → wg c w lc 0 eA args.toList → yy eA = some A → A.o = some x →
   Calls P f args w fun e w' => ∃ v, e = .returned v ∧ ∃ c', HP w mu c' w' ∧ uJ c' w' (A.res x).outs v ∧ jO c' w' lc 0 eA args.toList (A.res x).exts
mutual
theorem cr.plain {w : World} {ok wJ : Nat → Prop} : (t : Ty) → (v : Value) → (x : den t) → RT.ek (.cons t .nil) = false → cr w ok t v x → cr w wJ t v x
 | .int _, _, _, _, h => by unfold cr at h ⊢; exact h
 | .bool, _, _, _, h => by unfold cr at h ⊢; exact h
 | .str, _, _, _, h => by unfold cr at h ⊢; exact h
 | .sl _, _, _, hs, _ => by simp [RT.ek] at hs
theorem dt.plain {w : World} {ok wJ : Nat → Prop} : (r : RT) → (b off : Nat) → (x : ar r) → r.ek = false → dt w ok r b off x → dt w wJ r b off x
 | .nil, _, _, _, _, _ => by unfold dt; trivial
 | .cons t r, b, off, x, hs, h => by
   unfold dt at h ⊢; obtain ⟨⟨v, h1, h2⟩, h3⟩ := h; refine ⟨⟨v, h1, cr.plain t v x.1 ?_ h2⟩, dt.plain r b (off + 1) x.2 ?_ h3⟩
   · cases t <;> simp_all [RT.ek]
   · cases t <;> simp_all [RT.ek]
end
structure Pass (c c' : Cz) (pd : Lb → Prop) : Prop where
 cI : ∀ b l, pd l → c.own b = some l → c'.own b = some l
 ok : ∀ b, c.ok b → c'.ok b
theorem OwnAt.pass {c c' : Cz} {w : World} {l : Lb} {lc : Loc} {A : ig} {v : Value} (hp : ∀ b, c.own b = some l → c'.own b = some l) (ho : (∀ b, c.ok b → c'.ok b) ∨ (!A.r.ek || A.md.is .dp) = true) (h : OwnAt c w l lc A v) : OwnAt c' w l lc A v := by
 unfold OwnAt at h ⊢; obtain ⟨h1, h2, h3, h4⟩ := h; refine ⟨h1, h2, h3, ?_⟩
 cases lc with
 | nil => exact h4
 | «at» b off cap =>
   obtain ⟨g1, g2, g3, g4⟩ := h4; refine ⟨hp b g1, g2, g3, ?_⟩
   by_cases Mc : A.md = .sh ∧ A.r.ek = false
   · exact (cg.sh Mc.1).2 fun i x hx => dt.plain _ _ _ _ Mc.2 ((cg.sh Mc.1).1 g4 i x hx)
   · refine g4.go (fun hm => ?_) rfl (fun _ k hk => ⟨rfl, hp k hk⟩); rcases ho with ho | ho
     · exact ⟨Nat.le_refl _, fun _ _ _ => rfl, fun b _ h => ho b h⟩
     · rw [hm] at ho; simp [Md.is] at ho; exact absurd ⟨hm, ho⟩ Mc
theorem bI.pass {c c' : Cz} {w : World} {f : Nat → Lb} (hp : ∀ b j, c.own b = some (f j) → c'.own b = some (f j)) : (os : List OV) → ((∀ b, c.ok b → c'.ok b) ∨ os.all OV.plain = true) → (j : Nat) → (vs : List Value) → bI c w f j os vs → bI c' w f j os vs
 | [], _, _, _, h => h
 | .int k n :: os, ho, j, vs, h => by
   obtain ⟨l, h1, h2⟩ := h; exact ⟨l, h1, bI.pass hp os (ho.imp id fun h => by simp at h; simpa using h.2) (j + 1) l h2⟩
 | .bool k :: os, ho, j, vs, h => by
   obtain ⟨l, h1, h2⟩ := h; exact ⟨l, h1, bI.pass hp os (ho.imp id fun h => by simp at h; simpa using h.2) (j + 1) l h2⟩
 | .str k :: os, ho, j, vs, h => by
   obtain ⟨l, h1, h2⟩ := h; exact ⟨l, h1, bI.pass hp os (ho.imp id fun h => by simp at h; simpa using h.2) (j + 1) l h2⟩
 | .ea :: os, ho, j, vs, h => by
   obtain ⟨l, h1, h2⟩ := h; exact ⟨l, h1, bI.pass hp os (ho.imp id fun h => by simp at h; simpa using h.2) (j + 1) l h2⟩
 | .shr r xs :: os, ho, j, vs, h => by
   obtain ⟨v, l, h1, h2, h3⟩ := h; refine ⟨v, l, h1, ?_, bI.pass hp os (ho.imp id fun h => by simp at h; simpa using h.2) (j + 1) l h3⟩; rcases ho with ho | ho
   · exact cr.stays ⟨Nat.le_refl _, fun _ _ _ => rfl, fun b _ h => ho b h⟩ _ _ _ h2
   · simp [OV.plain] at ho
 | .k9 r xs :: os, ho, j, vs, h => by
   obtain ⟨v, l, h1, h2, h3⟩ := h; refine ⟨v, l, h1, ?_, bI.pass hp os (ho.imp id fun h => by simp at h; simpa using h.2) (j + 1) l h3⟩; rcases ho with ho | ho
   · exact h2.stays ⟨Nat.le_refl _, fun _ _ _ => rfl, fun b _ h => ho b h⟩
   · simp [OV.plain] at ho
 | .fn g rs xs :: os, ho, j, vs, h => by
   obtain ⟨v, l, h1, h2, h3⟩ := h; refine ⟨v, l, h1, ?_, bI.pass hp os (ho.imp id fun h => by simp at h; simpa using h.2) (j + 1) l h3⟩; rcases ho with ho | ho
   · exact h2.stays ⟨Nat.le_refl _, fun _ _ _ => rfl, fun b _ h => ho b h⟩
   · simp [OV.plain] at ho
 | .own A :: os, ho, j, vs, h => by
   obtain ⟨v, l, h1, ⟨lc, h2⟩, h3⟩ := h; refine ⟨v, l, h1, ⟨lc, h2.pass (fun b => hp b j) (ho.imp id fun h => ?_)⟩, bI.pass hp os (ho.imp id fun h => by simp at h; simpa using h.2) (j + 1) l h3⟩; rw [List.all_cons, Bool.and_eq_true] at h; exact h.1
theorem BO.pass {c c' : Cz} {w : World} {i : Nat} {os : List OV} {v : Value} (hb : ∀ b, c.own b = some (.su i) → c'.own b = some (.su i)) (hp : ∀ b j, c.own b = some (.cI i j) → c'.own b = some (.cI i j)) (ho : (∀ b, c.ok b → c'.ok b) ∨ os.all OV.plain = true) (h : BO c w i os v) : BO c' w i os v := by
 obtain ⟨od, vs, ty, h1, h2, h3, h4⟩ := h; exact ⟨od, vs, ty, h1, hb _ h2, h3, bI.pass hp os ho 0 _ h4⟩
theorem lE.pass {c c' : Cz} {w : World} (hp : ∀ b j, c.own b = some (.jw j) → c'.own b = some (.jw j)) : (rs : List RV) → ((∀ b, c.ok b → c'.ok b) ∨ rs.all (fun o => o.uk.all OV.plain) = true) → (j : Nat) → (vs : List Value) → lE c w j rs vs → lE c' w j rs vs
 | [], _, _, _, h => h
 | .one o :: rs, ho, j, vs, h => by
   obtain ⟨v, l, h1, h2, h3⟩ := h; exact ⟨v, l, h1, bI.pass hp [o] (ho.imp id fun h => by simp [RV.uk] at h; simpa using h.1) _ _ h2, lE.pass hp rs (ho.imp id fun h => by simp at h; simpa using h.2) _ _ h3⟩
 | .agg os :: rs, ho, j, vs, h => by
   obtain ⟨v, l, h1, h2, h3⟩ := h; exact ⟨v, l, h1, bI.pass hp os (ho.imp id fun h => by simp [RV.uk] at h; simpa using h.1) _ _ h2, lE.pass hp rs (ho.imp id fun h => by simp at h; simpa using h.2) _ _ h3⟩
 | .ptr os :: rs, ho, j, vs, h => by
   obtain ⟨v, l, h1, ⟨od, us, ty, g1, g2, g3, g4⟩, h3⟩ := h; exact ⟨v, l, h1, ⟨od, us, ty, g1, hp _ _ g2, g3, bI.pass hp os (ho.imp id fun h => by simp [RV.uk] at h; simpa using h.1.2) _ _ g4⟩, lE.pass hp rs (ho.imp id fun h => by simp at h; simpa using h.2) _ _ h3⟩
theorem uJ.pass {c c' : Cz} {w : World} (hp : ∀ b j, c.own b = some (.jw j) → c'.own b = some (.jw j)) {rs : List RV} (ho : (∀ b, c.ok b → c'.ok b) ∨ rs.all (fun o => o.uk.all OV.plain) = true) {v : Value} (h : uJ c w rs v) : uJ c' w rs v := by
 rcases h with ⟨r, h1, h2⟩ | ⟨h1, vs, h2, h3⟩
 · subst h1; exact .inl ⟨r, rfl, lE.pass hp _ ho _ _ h2⟩
 · exact .inr ⟨h1, vs, h2, lE.pass hp _ ho _ _ h3⟩
theorem GY.pass {c c' : Cz} {w : World} {i : Nat} {lc : Nat → Loc} {os : List OV} {us : List Value} {As : List (Option ig)} (hp : ∀ b j, c.own b = some (.cI i j) → c'.own b = some (.cI i j)) (ho : (∀ b, c.ok b → c'.ok b) ∨ XV.plain (.bQ As) = true) (h : GY c w i lc os us As) : GY c' w i lc os us As := by
 intro j A hA; obtain ⟨B, u, h1, h2, h3, h4, h5⟩ := h j A hA; refine ⟨B, u, h1, h2, h3, h4, h5.pass (fun b => hp b j) (ho.imp id fun h => ?_)⟩; have hm : some B ∈ As := by rw [gC] at h1; exact List.mem_of_getElem? h1
 have := List.all_eq_true.1 h _ hm; simpa using this
theorem jO.pass {c c' : Cz} {w : World} {lc : Nat → Nat → Loc} : (as : List AV) → (i : Nat) → (hb : ∀ b k, i ≤ k → c.own b = some (.su k) → c'.own b = some (.su k)) → (hp : ∀ b k j, i ≤ k → c.own b = some (.cI k j) → c'.own b = some (.cI k j)) → (vs : List Value) → (xs : List XV) → ((∀ b, c.ok b → c'.ok b) ∨ xs.all XV.plain = true) → jO c w lc i as vs xs → jO c' w lc i as vs xs
 | [], _, _, _, _, _, _, h => h
 | _ :: _, _, _, _, [], _, _, h => h.elim
 | .val _ _ :: as, i, hb, hp, _ :: vs, xs, ho, h => jO.pass as (i + 1) (fun b k hk => hb b k (by omega)) (fun b k j hk => hp b k j (by omega)) vs xs ho h
 | .io A :: as, i, hb, hp, v :: vs, xs, ho, h => by
   obtain ⟨B, l, h1, h2, h3, h4, h5⟩ := h; subst h1; refine ⟨B, l, rfl, h2, h3, h4.pass (fun b => hp b i 0 (Nat.le_refl _)) (ho.imp id fun h => by rw [List.all_cons, Bool.and_eq_true] at h; exact h.1), jO.pass as (i + 1) (fun b k hk => hb b k (by omega)) (fun b k j hk => hp b k j (by omega)) vs l (ho.imp id fun h => by simp at h; simpa using h.2) h5⟩
 | .bQ _ :: as, i, hb, hp, v :: vs, xs, ho, h => by
   obtain ⟨As, l, h1, ⟨us, h2, h3⟩, h4⟩ := h; subst h1; refine ⟨As, l, rfl, ⟨us, h2, h3.pass (fun b j => hp b i j (Nat.le_refl _)) (ho.imp id fun h => by rw [List.all_cons, Bool.and_eq_true] at h; exact h.1)⟩, jO.pass as (i + 1) (fun b k hk => hb b k (by omega)) (fun b k j hk => hp b k j (by omega)) vs l (ho.imp id fun h => by rw [List.all_cons, Bool.and_eq_true] at h; exact h.2) h4⟩
 | .box _ :: as, i, hb, hp, v :: vs, xs, ho, h => by
   obtain ⟨os, l, h1, h2, h3⟩ := h; subst h1; refine ⟨os, l, rfl, h2.pass (fun b => hb b i (Nat.le_refl _)) (fun b j => hp b i j (Nat.le_refl _)) (ho.imp id fun h => by simp [XV.plain] at h; simpa using h.1), jO.pass as (i + 1) (fun b k hk => hb b k (by omega)) (fun b k j hk => hp b k j (by omega)) vs l (ho.imp id fun h => by simp at h; simpa using h.2) h3⟩
end Go.TM
namespace Go.TM
open Go Go.RowKit
def Cz.map (c : Cz) (ρ : Lb → Option Lb) : Cz := { bx := c.bx, lc := c.lc, own := fun b => (c.own b).bind ρ }
theorem Cz.rS {c : Cz} {ρ : Lb → Option Lb} {b : Nat} (h : c.ok b) : (c.map ρ).ok b := by
 unfold Cz.ok Cz.map at *; simp [h]
theorem Cz.map_some {c : Cz} {ρ : Lb → Option Lb} {b : Nat} {l : Lb} (h : (c.map ρ).own b = some l) : ∃ k, c.own b = some k ∧ ρ k = some l := by
 unfold Cz.map at h; exact Option.bind_eq_some_iff.1 h
theorem Cz.ku {c : Cz} {ρ : Lb → Option Lb} {b : Nat} {l : Lb} (h : c.own b = some l) : (c.map ρ).own b = ρ l := by
 unfold Cz.map; simp [h]
theorem cg.map {c : Cz} {w : World} {l l' : Lb} {A : ig} {b off : Nat} (h : cg c w l A b off) {ρ : Lb → Option Lb} (hρ : ρ l = some l') : cg (c.map ρ) w l' A b off :=
 h.go (fun _ => ⟨Nat.le_refl _, fun _ _ _ => rfl, fun b _ hb => Cz.rS hb⟩) rfl (fun _ _ hk => ⟨rfl, (Cz.ku hk).trans hρ⟩)
theorem J6 {c : Cz} {w : World} {s j : Nat} {A : ig} (h : cu c w s j A) (ho : A.own = true) {vw : View} {u : Value} (h1 : u.oneCell' = true) (hu : jx (c.lc s j) A.r.width vw.lo (vw.app A.xs).length u)
   {ρ : Lb → Option Lb} {l : Lb} (hρ : ρ (.sp s j) = some l) (Bg : A.md.is .sh = true ∨ vw.isFull = true) : ∃ lc, OwnAt (c.map ρ) w l lc { A with xs := vw.app A.xs } u := by
 cases hl : c.lc s j with
 | nil =>
   unfold jx at hu; rw [hl] at hu; exact ⟨.nil, h1, hu, ho, List.length_eq_zero_iff.1 hu.2⟩
 | «at» b off cap =>
   unfold jx at hu; rw [hl] at hu; obtain ⟨a, k, rfl, hk, wM, ha⟩ := hu; unfold cu at h; rw [hl] at h; obtain ⟨h0, _, ⟨cur, ty, h3, h4⟩, h5⟩ := h; rw [ho] at h0; refine ⟨.at b (off + vw.lo * A.r.width) k, h1, ⟨a, k, rfl, hk, by omega, by simpa using ha⟩, ho, (Cz.ku h0).trans hρ, hk, ⟨cur, ty, h3, ?_⟩, ?_⟩
   · have : (vw.lo + k) * A.r.width ≤ cap * A.r.width := Nat.mul_le_mul_right _ wM; rw [Nat.add_mul] at this; show off + vw.lo * A.r.width + k * A.r.width ≤ cur.size; omega
   · have hmm : A.md = .sh ∨ A.md ≠ .sh := Classical.em _; rcases hmm with hm | hm
     · refine cg.JO hm fun i x hi => ?_
       have := (cg.sh hm).1 h5 _ x (View.vo vw A.xs hi); have e : off + vw.lo * A.r.width + i * A.r.width = off + (vw.lo + i) * A.r.width := by rw [Nat.add_mul]; omega
       rw [e]; exact dt.stays ⟨Nat.le_refl _, fun _ _ _ => rfl, fun b _ hb => Cz.rS hb⟩ _ _ _ x rfl this
     · have hf : vw = .full := by
         rcases Bg with Bg | Bg
         · exact absurd (Md.oB.1 Bg) hm
         · cases vw with
           | full => rfl
           | «from» _ => cases Bg
           | sub _ _ => cases Bg
       subst hf; have := h5.go (c' := c.map ρ) (w' := w) (l' := l) (fun e => absurd e hm) rfl (fun _ k hk => ⟨rfl, (Cz.ku hk).trans hρ⟩); simpa [View.lo, View.app] using this
theorem fo.Nj {c : Cz} {st : St} {w : World} {x : CV} {cs : List CV} {vs : List Value} (h : fo c st w (x :: cs) vs) : ∃ v l, vs = v :: l ∧ jG c st w x v ∧ fo c st w cs l := by
 obtain ⟨h1, h2⟩ := h
 cases vs with
 | nil => simp at h1
 | cons v l => exact ⟨v, l, rfl, h2 0 x v rfl rfl, by simpa using h1, fun i y u hy hu => h2 (i + 1) y u (by simpa using hy) (by simpa using hu)⟩
theorem mA {α : Type} (l m : List α) (n : Nat) : nth (l ++ m) n = if n < l.length then nth l n else nth m (n - l.length) := by
 simp only [gC]
 by_cases h : n < l.length
 · rw [if_pos h, List.getElem?_append_left h]
 · rw [if_neg h, List.getElem?_append_right (by omega)]
theorem vt {w0 : World} {mu : Mu} {c : Cz} {st : St} {a : Act} {w : World} (h : Rel w0 mu c st a w) {s j g : Nat} {A : ig} (hA : bd st s j g = some A) : cu c w s j A := by
 obtain ⟨sl, h1, _, h3⟩ := bA hA; exact h.aP s j sl A h1 h3
theorem xT {w : World} {P : List Nat → Nat → Prop} {q : RT} {ys : List (ar q)} {b : Nat} : (r : RT) → (p : List Nat) → (k0 off : Nat) → (x : ar r) → (k : Nat) → gF w P r p k0 b off x → p8 r x k = some ⟨q, ys⟩ → ∃ v, w.cell? ⟨b, off + k, none⟩ = some v ∧ dB w P (.sl q) (p ++ [k0 + k]) v ys
 | .nil, _, _, _, _, _, _, h => by simp [p8] at h
 | .cons t r, p, k0, off, x, 0, hd, h => by
   unfold gF at hd; obtain ⟨⟨v, h1, h2⟩, _⟩ := hd
   cases t with
   | sl q' =>
     have h : some (⟨q', x.1⟩ : (q : RT) × List (ar q)) = some ⟨q, ys⟩ := h; injection h with h; injection h with e1 e2; subst e1; have e2 := eq_of_heq e2; subst e2; exact ⟨v, h1, h2⟩
   | int _ => simp [p8] at h
   | bool => simp [p8] at h
   | str => simp [p8] at h
 | .cons t r, p, k0, off, x, k + 1, hd, h => by
   unfold gF at hd; have h' : p8 r x.2 k = some ⟨q, ys⟩ := by cases t <;> exact h
   obtain ⟨v, h1, h2⟩ := xT r p (k0 + 1) (off + 1) x.2 k hd.2 h'; exact ⟨v, by rw [show off + (k + 1) = off + 1 + k by omega]; exact h1, by rw [show k0 + (k + 1) = k0 + 1 + k by omega]; exact h2⟩
theorem D7 {c : Cz} {st : St} {w : World} {a j g e i k : Nat} {q : RT} {ys : List (ar q)} {v : Value} {A : ig} (hx : jG c st w (.pL a j g e i k q ys) v) (hA : bd st a j g = some A) (he : my st a = e) (ha : cu c w a j A) :
   ∃ (gg : Nat → List Nat) (b o cap : Nat), c.lc a j = .at b o cap ∧ A.md = .dp ∧ gg b = [] ∧ w.cell? ⟨b, o + i * A.r.width + k, none⟩ = some v ∧ (∀ (i : Nat) x, A.xs[i]? = some x → gF w (fun p k => c.own k = some (.sp a j) ∧ gg k = p) A.r [i] 0 b (o + i * A.r.width) x) ∧
     (∃ x, A.xs[i]? = some x ∧ p8 A.r x k = some ⟨q, ys⟩) ∧ dB w (fun p k => c.own k = some (.sp a j) ∧ gg k = p) (.sl q) [i, k] v ys := by
 obtain ⟨_, _, _, h⟩ := hx; obtain ⟨hm, ⟨x, v7, SW⟩, b, o, cap, iA, sy⟩ := h A hA he; unfold cu at ha; rw [iA] at ha; obtain ⟨_, _, _, fF⟩ := ha; unfold cg at fF; rw [hm] at fF; obtain ⟨gg, GQ, fF⟩ := fF; obtain ⟨v', h1, h2⟩ := xT A.r [i] 0 _ x k (fF i x v7) SW; rw [sy] at h1
 cases h1
 exact ⟨gg, b, o, cap, iA, hm, GQ, sy, fF, ⟨x, v7, SW⟩, by simpa using h2⟩
theorem uK {st : St} {own : Bool} {q : RT} {y : ar q} {off : Nat} {o : OV} {u : Option Lb} {r : List (Nat × Nat)} (h : gk st own (.k9 q y off) = some (o, u, r)) : o = .k9 q [y] ∧ u = none ∧ r = [] := by
 unfold gk at h; obtain ⟨_, h⟩ := aI h; simp only [Option.some.injEq, Prod.mk.injEq] at h; exact ⟨h.1.symm, h.2.1.symm, h.2.2.symm⟩
theorem sD {st : St} {own : Bool} {q : RT} {y : List (ar q)} {off : Nat} {o : OV} {u : Option Lb} {r : List (Nat × Nat)} (h : gk st own (.rM q y off) = some (o, u, r)) : o = .k9 q y ∧ u = none ∧ r = [] := by
 unfold gk at h; obtain ⟨_, h⟩ := aI h; simp only [Option.some.injEq, Prod.mk.injEq] at h; exact ⟨h.1.symm, h.2.1.symm, h.2.2.symm⟩
theorem GZ {w0 : World} {mu : Mu} {c : Cz} {st : St} {a : Act} {w : World} (h : Rel w0 mu c st a w) {own : Bool} {ρ : Lb → Option Lb} {f : Nat → Lb} {j : Nat} {x : CV} {v : Value} (hx : jG c st w x v) {o : OV} {u : Option Lb} {r : List (Nat × Nat)}
   (hc : gk st own x = some (o, u, r)) (hu : ∀ l, u = some l → ρ l = some (f j)) (hr : ∀ p ∈ r, ρ (.sp p.1 p.2) = none) {os : List OV} {l : List Value} (hh : bI (c.map ρ) w f (j + 1) os l) : bI (c.map ρ) w f j (o :: os) (v :: l) := by
 cases x with
 | int k n =>
   simp only [gk, Option.some.injEq, Prod.mk.injEq] at hc; obtain ⟨rfl, rfl, _⟩ := hc; have e : v = .int k n := hx; exact ⟨l, by rw [e], hh⟩
 | bool n =>
   simp only [gk, Option.some.injEq, Prod.mk.injEq] at hc; obtain ⟨rfl, rfl, _⟩ := hc; have e : v = .bool n := hx; exact ⟨l, by rw [e], hh⟩
 | str n =>
   simp only [gk, Option.some.injEq, Prod.mk.injEq] at hc; obtain ⟨rfl, rfl, _⟩ := hc; have e : v = .string n := hx; exact ⟨l, by rw [e], hh⟩
 | ea =>
   simp only [gk, Option.some.injEq, Prod.mk.injEq] at hc; obtain ⟨rfl, rfl, _⟩ := hc; have e : v = .slice none 0 0 := hx; exact ⟨l, by rw [e], hh⟩
 | shr q xs =>
   simp only [gk, Option.some.injEq, Prod.mk.injEq] at hc; obtain ⟨rfl, rfl, _⟩ := hc; have e : cr w c.ok (.sl q) v xs := hx; exact ⟨v, l, rfl, cr.stays ⟨Nat.le_refl _, fun _ _ _ => rfl, fun b _ hb => Cz.rS hb⟩ _ _ _ e, hh⟩
 | nn q xs =>
   simp only [gk, Option.some.injEq, Prod.mk.injEq] at hc; obtain ⟨rfl, rfl, _⟩ := hc; have e : cr w c.ok (.sl q) v xs := hx.1; exact ⟨v, l, rfl, cr.stays ⟨Nat.le_refl _, fun _ _ _ => rfl, fun b _ hb => Cz.rS hb⟩ _ _ _ e, hh⟩
 | ref s k g vw =>
   unfold gk at hc; simp only at hc
   cases hA : bd st s k g with
   | none => simp [hA] at hc
   | some A =>
     simp only [hA] at hc; have ha := vt h hA; have hs := hx.2.2 A hA; have SX : A.md.Ct = false := by cases hm : A.md <;> simp_all [Md.Ct]
     have zh := SX; simp only [SX, cond_false] at hc
     cases hb : (own && A.own && (A.md.is .sh || vw.isFull)) with
     | true =>
       simp only [hb, cond_true, Option.some.injEq, Prod.mk.injEq] at hc; obtain ⟨rfl, rfl, rfl⟩ := hc; rw [Bool.and_eq_true, Bool.and_eq_true, Bool.or_eq_true] at hb; obtain ⟨lc, g1⟩ := J6 ha hb.1.2 hx.1 hs (hu _ rfl) hb.2; exact ⟨v, l, rfl, ⟨lc, g1⟩, hh⟩
     | false =>
       simp only [hb, cond_false, Option.some.injEq, Prod.mk.injEq] at hc; obtain ⟨rfl, rfl, rfl⟩ := hc; refine ⟨v, l, rfl, ?_, hh⟩; refine wL ha hs (fun b hb => Cz.rS hb) (fun b _ hk => ?_) zh; exact (Cz.ku hk).trans (hr (s, k) (by simp))
 | pL s k g e i kk q ys =>
   unfold gk at hc; simp only at hc
   cases hA : bd st s k g with
   | none => simp [hA] at hc
   | some A =>
     simp only [hA] at hc; obtain ⟨h1, hc⟩ := aI hc; rw [Bool.and_eq_true] at h1; simp only [Option.some.injEq, Prod.mk.injEq] at hc; obtain ⟨rfl, rfl, rfl⟩ := hc; obtain ⟨gg, b, o, cap, _, _, _, _, _, _, hd⟩ := D7 hx hA (Nat.eq_of_beq_eq_true h1.2).symm (vt h hA); exact ⟨v, l, rfl, dB.rep (fun p kb hk => (Cz.ku hk.1).trans (hr (s, k) (by simp))) _ _ _ _ hd, hh⟩
 | bad => simp [gk] at hc
 | Fj => simp [gk] at hc
 | ptr _ _ _ => simp [gk] at hc
 | DJ _ _ _ _ _ => simp [gk] at hc
 | k9 q y off =>
   unfold gk at hc; obtain ⟨h1, hc⟩ := aI hc; have h1 := Nat.eq_of_beq_eq_true h1; subst h1; simp only [Option.some.injEq, Prod.mk.injEq] at hc; obtain ⟨rfl, rfl, _⟩ := hc; obtain ⟨b, o, e1, e2, e3, e4⟩ := hx; refine ⟨v, l, rfl, ⟨b, o, e1, e2, Cz.rS e3, fun z hz => ?_⟩, hh⟩; simp at hz; subst hz; exact dt.stays ⟨Nat.le_refl _, fun _ _ _ => rfl, fun b _ hb => Cz.rS hb⟩ _ _ _ _ rfl e4
 | rM q ys off =>
   unfold gk at hc; obtain ⟨h1, hc⟩ := aI hc; have h1 := Nat.eq_of_beq_eq_true h1; subst h1; simp only [Option.some.injEq, Prod.mk.injEq] at hc; obtain ⟨rfl, rfl, _⟩ := hc; obtain ⟨b, o, e1, e2, e3, e4⟩ := hx; exact ⟨v, l, rfl, ⟨b, o, e1, e2, Cz.rS e3, fun z hz => dt.stays ⟨Nat.le_refl _, fun _ _ _ => rfl, fun b _ hb => Cz.rS hb⟩ _ _ _ _ rfl (e4 z hz)⟩, hh⟩
 | fn g rs ys =>
   simp only [gk, Option.some.injEq, Prod.mk.injEq] at hc; obtain ⟨rfl, rfl, _⟩ := hc; have hx : FnAt w c.ok g rs v ys := hx; exact ⟨v, l, rfl, hx.stays ⟨Nat.le_refl _, fun _ _ _ => rfl, fun b _ hb => Cz.rS hb⟩, hh⟩
theorem G0 {w0 : World} {mu : Mu} {c : Cz} {st : St} {a : Act} {w : World} (h : Rel w0 mu c st a w) {own : Bool} {ρ : Lb → Option Lb} {f : Nat → Lb} : (cs : List CV) → (vs : List Value) → (j : Nat) → fo c st w cs vs → {os : List OV} → {u : List (Option Lb)} → {r : List (Nat × Nat)} →
   fc st own cs = some (os, u, r) → (∀ k l, nth u k = some (some l) → ρ l = some (f (j + k))) → (∀ p ∈ r, ρ (.sp p.1 p.2) = none) → bI (c.map ρ) w f j os vs
 | [], vs, j, hl, os, u, r, he, _, _ => by
   simp only [fc, Option.some.injEq, Prod.mk.injEq] at he; obtain ⟨rfl, rfl, rfl⟩ := he; have := hl.1; simp at this; exact List.length_eq_zero_iff.1 this.symm
 | x :: cs, vs, j, hl, os, u, r, he, hu, hr => by
   obtain ⟨v, l, rfl, hx, um⟩ := hl.Nj; unfold fc at he
   cases hc : gk st own x with
   | none => simp [hc] at he
   | some p =>
     obtain ⟨o, u1, r1⟩ := p
     cases hq : fc st own cs with
     | none => simp [hc, hq] at he
     | some q =>
       obtain ⟨w6, us, rs⟩ := q; simp only [hc, hq, Option.some.injEq, Prod.mk.injEq] at he; obtain ⟨rfl, rfl, rfl⟩ := he; refine GZ h hx hc (fun l hl => hu 0 l (by rw [hl]; rfl)) (fun p hp => hr p (List.mem_append_left _ hp)) ?_; refine G0 h cs l (j + 1) um hq (fun k' l' hk => ?_) (fun p hp => hr p (List.mem_append_right _ hp)); have := hu (k' + 1) l' hk
       rwa [show j + (k' + 1) = j + 1 + k' by omega] at this
end Go.TM
namespace Go.TM
open Go Go.RowKit
def Lb.real : Lb → Bool
 | .box _ => true
 | .sp _ _ => true
 | _ => false
theorem Lb.w8 {x y : Lb} (hx : x.real = true) : Lb.same x y = true ↔ x = y := by
 cases x <;> cases y <;> simp [Lb.same, Lb.real] at hx ⊢
theorem pf : (l : List Lb) → (∀ x ∈ l, x.real = true) → s4 l = true → l.Nodup
 | [], _, _ => List.nodup_nil
 | x :: l, hr, h => by
   simp only [s4, Bool.and_eq_true, List.all_eq_true] at h; refine List.nodup_cons.2 ⟨fun hm => ?_, pf l (fun y hy => hr y (List.mem_cons_of_mem _ hy)) h.2⟩; have := h.1 x hm; rw [(Lb.w8 (hr x List.mem_cons_self)).2 rfl] at this
   cases this
noncomputable def look : List (Lb × Lb) → Lb → Option Lb
 | [], _ => none
 | (x, y) :: t, l => have := Classical.propDecidable (x = l); if x = l then some y else look t l
theorem w9 : (t : List (Lb × Lb)) → (t.map (·.1)).Nodup → {p : Lb × Lb} → p ∈ t → look t p.1 = some p.2
 | [], _, _, h => by simp at h
 | (x, y) :: t, hn, p, h => by
   unfold look; simp only [List.map_cons, List.nodup_cons] at hn
   by_cases e : x = p.1
   · rw [if_pos e]; rcases List.mem_cons.1 h with rfl | h
     · rfl
     · exact absurd (List.mem_map.2 ⟨p, h, e.symm⟩) hn.1
   · rw [if_neg e]; rcases List.mem_cons.1 h with rfl | h
     · exact absurd rfl e
     · exact w9 t hn.2 h
theorem vu : (t : List (Lb × Lb)) → {l y : Lb} → look t l = some y → (l, y) ∈ t
 | [], _, _, h => by simp [look] at h
 | (x, z) :: t, l, y, h => by
   unfold look at h
   by_cases e : x = l
   · rw [if_pos e] at h
     cases h
     subst e; exact List.mem_cons_self
   · rw [if_neg e] at h; exact List.mem_cons_of_mem _ (vu t h)
def xa (f : Nat → Lb) : (j : Nat) → List (Option Lb) → List (Lb × Lb)
 | _, [] => []
 | j, some l :: ls => (l, f j) :: xa f (j + 1) ls
 | j, none :: ls => xa f (j + 1) ls
theorem xc (f : Nat → Lb) : (j : Nat) → (ls : List (Option Lb)) → (xa f j ls).map (·.1) = cn ls
 | _, [] => rfl
 | j, some l :: ls => by simp [xa, cn, xc f (j + 1) ls]
 | j, none :: ls => by simp [xa, cn, xc f (j + 1) ls]
theorem Al (f : Nat → Lb) : (j : Nat) → (ls : List (Option Lb)) → ∀ p ∈ xa f j ls, ∃ k, p.2 = f k
 | _, [], p, h => by simp [xa] at h
 | j, some l :: ls, p, h => by
   simp only [xa, List.mem_cons] at h; rcases h with rfl | h
   · exact ⟨j, rfl⟩
   · exact Al f (j + 1) ls p h
 | j, none :: ls, p, h => Al f (j + 1) ls p h
theorem uL (f : Nat → Lb) : (j : Nat) → (ls : List (Option Lb)) → ∀ k l, nth ls k = some (some l) → (l, f (j + k)) ∈ xa f j ls
 | _, [], k, l, h => by simp at h
 | j, x :: ls, 0, l, h => by
   simp only [nth, Option.some.injEq] at h; subst h; exact List.mem_cons_self
 | j, x :: ls, k + 1, l, h => by
   have := uL f (j + 1) ls k l h; rw [show j + (k + 1) = j + 1 + k by omega]
   cases x with
   | none => exact this
   | some x => exact List.mem_cons_of_mem _ this
theorem gR {l : Lb} : {ls : List (Option Lb)} → l ∈ cn ls ↔ some l ∈ ls
 | [] => by simp [cn]
 | none :: ls => by simp [cn, gR (ls := ls)]
 | some x :: ls => by simp [cn, gR (ls := ls)]
def FK (c : Cz) : Option CV → Loc
 | some (.ref a j _ _) => c.lc a j
 | _ => .nil
def yK (c : Cz) : V → Nat → Loc
 | .one (.ref a j _ _) => fun _ => c.lc a j
 | .agg cs => fun k => FK c cs[k]?
 | _ => fun _ => .nil
theorem G1 {st : St} {own : Bool} : (cs : List CV) → {os : List OV} → {u : List (Option Lb)} → {r : List (Nat × Nat)} → fc st own cs = some (os, u, r) → ∀ (k : Nat) (o : OV), os[k]? = some o → ∃ x u' r', cs[k]? = some x ∧ gk st own x = some (o, u', r') ∧ nth u k = some u'
 | [], _, _, _, h => by
   simp only [fc, Option.some.injEq, Prod.mk.injEq] at h; obtain ⟨rfl, rfl, _⟩ := h; intro k o hk; simp at hk
 | x :: cs, os, u, r, h => by
   unfold fc at h
   cases hc : gk st own x with
   | none => simp [hc] at h
   | some p =>
     obtain ⟨o, u1, r1⟩ := p
     cases hq : fc st own cs with
     | none => simp [hc, hq] at h
     | some q =>
       obtain ⟨w6, us, rs⟩ := q; simp only [hc, hq, Option.some.injEq, Prod.mk.injEq] at h; obtain ⟨rfl, rfl, _⟩ := h; intro k o' hk
       cases k with
       | zero =>
         simp only [List.getElem?_cons_zero, Option.some.injEq] at hk; subst hk; exact ⟨x, u1, r1, rfl, hc, rfl⟩
       | succ k =>
         obtain ⟨y, u', r', h1, h2, h3⟩ := G1 cs hq k o' (by simpa using hk); exact ⟨y, u', r', by simpa using h1, h2, h3⟩
theorem J7 {st : St} {own : Bool} {x : CV} {A : ig} {u : Option Lb} {r : List (Nat × Nat)} (h : gk st own x = some (.own A, u, r)) : ∃ a j g w B, x = .ref a j g w ∧ bd st a j g = some B ∧ A = { B with xs := w.app B.xs } ∧ u = some (.sp a j) ∧ B.own = true := by
 cases x with
 | ref a j g w =>
   unfold gk at h; simp only at h
   cases hA : bd st a j g with
   | none => simp [hA] at h
   | some B =>
     simp only [hA] at h
     cases hm : B.md.Ct with
     | true => simp [hm] at h
     | false =>
     simp only [hm, cond_false] at h
     cases hb : (own && B.own && (B.md.is .sh || w.isFull)) with
     | false => simp [hb] at h
     | true =>
       simp only [hb, cond_true, Option.some.injEq, Prod.mk.injEq] at h; obtain ⟨h1, rfl, _⟩ := h; injection h1 with h1; rw [Bool.and_eq_true, Bool.and_eq_true] at hb; exact ⟨a, j, g, w, B, rfl, hA, h1.symm, rfl, hb.1.2⟩
 | pL a j g e i k q ys =>
   unfold gk at h; simp only at h
   cases hA : bd st a j g with
   | none => simp [hA] at h
   | some B =>
     simp only [hA] at h; obtain ⟨_, h⟩ := aI h; simp at h
 | k9 q y off => exact absurd (uK h).1 (by simp)
 | rM q y off => exact absurd (sD h).1 (by simp)
 | _ => simp [gk] at h
theorem HQ {st : St} {own : Bool} {x : CV} {u : Option Lb} {r : List (Nat × Nat)} (h : gk st own x = some (.ea, u, r)) : x = .ea := by
 cases x with
 | ref a j g w =>
   unfold gk at h; simp only at h
   cases hA : bd st a j g with
   | none => simp [hA] at h
   | some B =>
     simp only [hA] at h
     cases hm : B.md.Ct with
     | true => simp [hm] at h
     | false =>
     simp only [hm, cond_false] at h
     cases hb : (own && B.own && (B.md.is .sh || w.isFull)) <;> simp [hb] at h
 | pL a j g e i k q ys =>
   unfold gk at h; simp only at h
   cases hA : bd st a j g with
   | none => simp [hA] at h
   | some B =>
     simp only [hA] at h; obtain ⟨_, h⟩ := aI h; simp at h
 | ea => rfl
 | k9 q y off => exact absurd (uK h).1 (by simp)
 | rM q y off => exact absurd (sD h).1 (by simp)
 | _ => simp [gk] at h
theorem BP {st : St} {own : Bool} {x : CV} {o : OV} {u : Option Lb} {r : List (Nat × Nat)} (h : gk st own x = some (o, u, r)) : ∀ l, u = some l → ∃ s j, l = .sp s j := by
 cases x with
 | ref a j g w =>
   unfold gk at h; simp only at h
   cases hA : bd st a j g with
   | none => simp [hA] at h
   | some A =>
     simp only [hA] at h
     cases hm : A.md.Ct with
     | true => simp [hm] at h
     | false =>
     simp only [hm, cond_false] at h
     cases hb : (own && A.own && (A.md.is .sh || w.isFull)) <;> simp only [hb, cond_true, cond_false, Option.some.injEq, Prod.mk.injEq] at h <;> obtain ⟨_, rfl, _⟩ := h <;> simp
 | pL a j g e i k q ys =>
   unfold gk at h; simp only at h
   cases hA : bd st a j g with
   | none => simp [hA] at h
   | some B =>
     simp only [hA] at h; obtain ⟨_, h⟩ := aI h; simp only [Option.some.injEq, Prod.mk.injEq] at h; obtain ⟨_, rfl, _⟩ := h; simp
 | k9 q y off => obtain ⟨_, rfl, _⟩ := uK h; simp
 | rM q y off => obtain ⟨_, rfl, _⟩ := sD h; simp
 | _ => simp [gk] at h <;> (try (obtain ⟨_, rfl, _⟩ := h; simp))
theorem vv {st : St} {own : Bool} : (cs : List CV) → {os : List OV} → {u : List (Option Lb)} → {r : List (Nat × Nat)} → fc st own cs = some (os, u, r) → ∀ l ∈ cn u, ∃ s j, l = .sp s j
 | [], _, _, _, h => by
   simp only [fc, Option.some.injEq, Prod.mk.injEq] at h; obtain ⟨_, rfl, _⟩ := h; simp [cn]
 | x :: cs, os, u, r, h => by
   unfold fc at h
   cases hc : gk st own x with
   | none => simp [hc] at h
   | some p =>
     obtain ⟨o, u1, r1⟩ := p
     cases hq : fc st own cs with
     | none => simp [hc, hq] at h
     | some q =>
       obtain ⟨w6, us, rs⟩ := q; simp only [hc, hq, Option.some.injEq, Prod.mk.injEq] at h; obtain ⟨_, rfl, _⟩ := h; intro l hl; rw [gR] at hl; rcases List.mem_cons.1 hl with hl | hl
       · exact BP hc l hl.symm
       · exact vv cs hq l (gR.2 hl)
theorem HR {st : St} {own : Bool} (cs : List CV) {os : List OV} {u : List (Option Lb)} {r : List (Nat × Nat)} (h : fc st own cs = some (os, u, r)) : ∀ l ∈ cn u, l.real = true := by
 intro l hl; obtain ⟨s, j, rfl⟩ := vv cs h l hl; rfl
def jH (i : Nat) (av : AV) (bx : List Lb) (u : List (Option Lb)) : List (Lb × Lb) :=
 bx.map (fun l => (l, .su i)) ++ xa (.cI i) 0 u
theorem mB (i : Nat) (av : AV) (bx : List Lb) (u : List (Option Lb)) : (jH i av bx u).map (·.1) = bx ++ cn u := by
 unfold jH; rw [List.map_append, xc, List.map_map]
 congr 1
 exact List.map_id bx
theorem mC (i : Nat) (av : AV) (bx : List Lb) (u : List (Option Lb)) : ∀ p ∈ jH i av bx u, p.2.j9 = true := by
 intro p hp; unfold jH at hp; rcases List.mem_append.1 hp with hp | hp
 · obtain ⟨l, _, rfl⟩ := List.mem_map.1 hp; rfl
 · obtain ⟨k, e⟩ := Al _ _ _ p hp; rw [e]; rfl
theorem HS {w0 : World} {mu : Mu} {c : Cz} {st : St} {a : Act} {w : World} (h : Rel w0 mu c st a w) {m : Pm} {v : V} {x : Value} (hx : eF c st w v x) {av : AV} {u q : List Lb} {r : List (Nat × Nat)} (he : eo st m v = some (av, u, q, r)) (i : Nat) :
   (∀ l ∈ u, l.real = true) ∧ (∀ l ∈ q, l ∈ u) ∧ ∃ tb : List (Lb × Lb), tb.map (·.1) = u ∧ (∀ p ∈ tb, p.2.j9 = true) ∧ ∀ ρ : Lb → Option Lb, (∀ p ∈ tb, ρ p.1 = some p.2) → (∀ p ∈ r, ρ (.sp p.1 p.2) = none) → ru (c.map ρ) w i (yK c v) av x := by
 have vals : ∀ (own : Bool) (cs : List CV) (os : List OV) (us : List (Option Lb)) (rs : List (Nat × Nat)) (vs : List Value), fo c st w cs vs → fc st own cs = some (os, us, rs) → (∀ l ∈ cn us, l.real = true) ∧
     ∀ ρ : Lb → Option Lb, (∀ p ∈ xa (.cI i) 0 us, ρ p.1 = some p.2) → (∀ p ∈ rs, ρ (.sp p.1 p.2) = none) → bI (c.map ρ) w (.cI i) 0 os vs := by
   intro own cs os us rs vs hl hq; refine ⟨HR cs hq, fun ρ hp hr => G0 h cs vs 0 hl hq (fun k l hk => ?_) hr⟩; have := hp _ (uL (.cI i) 0 us k l hk); simpa using this
 have single : ∀ (own : Bool) (cx : CV) (os : List OV) (us : List (Option Lb)) (rs : List (Nat × Nat)), jG c st w cx x → fc st own [cx] = some (os, us, rs) → (∀ l ∈ cn us, l.real = true) ∧ (∀ l ∈ cn us, l ∈ cn us) ∧
     ∃ tb : List (Lb × Lb), tb.map (·.1) = cn us ∧ (∀ p ∈ tb, p.2.j9 = true) ∧ ∀ ρ : Lb → Option Lb, (∀ p ∈ tb, ρ p.1 = some p.2) → (∀ p ∈ rs, ρ (.sp p.1 p.2) = none) → ru (c.map ρ) w i (yK c (.one cx)) (.val false os) x := by
   intro own cx os us rs hl hq; obtain ⟨g1, g2⟩ := vals own [cx] os us rs [x] ⟨rfl, fun k y z hy hz => by
     cases k with
     | zero => simp at hy hz; subst hy hz; exact hl
     | succ k => simp at hy⟩ hq
   exact ⟨g1, fun _ h => h, jH i (.val false os) [] us, mB _ _ _ _, mC _ _ _ _, fun ρ hp hr => g2 ρ (fun p m9 => hp p (by simpa [jH] using m9)) hr⟩
 cases v with
 | nb _ => simp [eo] at he
 | agg cs =>
   obtain ⟨vs, rfl, hl⟩ := hx; have other : (match fc st m.ob cs with | some (os, u, r) => some (AV.val true os, cn u, cn u, r) | none => none) = some (av, u, q, r) → (∀ l ∈ u, l.real = true) ∧ (∀ l ∈ q, l ∈ u) ∧
       ∃ tb : List (Lb × Lb), tb.map (·.1) = u ∧ (∀ p ∈ tb, p.2.j9 = true) ∧ ∀ ρ : Lb → Option Lb, (∀ p ∈ tb, ρ p.1 = some p.2) → (∀ p ∈ r, ρ (.sp p.1 p.2) = none) → ru (c.map ρ) w i (yK c (.agg cs)) av (.agg vs) := by
     intro he
     cases hq : fc st m.ob cs with
     | none => simp [hq] at he
     | some p =>
       obtain ⟨os, us, rs⟩ := p; simp only [hq, Option.some.injEq, Prod.mk.injEq] at he; obtain ⟨rfl, rfl, rfl, rfl⟩ := he; obtain ⟨g1, g2⟩ := vals _ _ _ _ _ _ hl hq; exact ⟨g1, fun _ h => h, jH i (.val true os) [] us, mB _ _ _ _, mC _ _ _ _, fun ρ hp hr => ⟨vs, rfl, g2 ρ (fun p m9 => hp p (by simpa [jH] using m9)) hr⟩⟩
   unfold eo at he
   cases m with
   | shr => exact other he
   | own => exact other he
   | pick _ => exact other he
   | io => exact other he
   | bQ =>
     simp only at he
     cases hq : fc st true cs with
     | none => simp [hq] at he
     | some p =>
       obtain ⟨os, us, rs⟩ := p; simp only [hq] at he; obtain ⟨n6, vI⟩ := aI he; simp only [Option.some.injEq, Prod.mk.injEq] at vI; obtain ⟨rfl, rfl, rfl, rfl⟩ := vI; obtain ⟨g1, g2⟩ := vals _ _ _ _ _ _ hl hq; refine ⟨g1, by simp, jH i (.val true os) [] us, mB _ _ _ _, mC _ _ _ _, fun ρ hp hr => ⟨vs, rfl, g2 ρ (fun p m9 => hp p (by simpa [jH] using m9)) hr, fun j o x ho hxj => ?_⟩⟩; obtain ⟨cx, u', r', k1, k2, k3⟩ := G1 cs hq j o ho; show J5 (c.map ρ) w i (fun k => FK c cs[k]?) j o x
       cases o with
       | ea =>
         have := HQ k2; subst this; show FK c cs[j]? = .nil; rw [k1]; rfl
       | own A =>
         obtain ⟨s, k, g, vw, B, rfl, hA, rfl, rfl, hB⟩ := J7 k2; have zZ : CV.ref s k g vw ∈ cs := List.mem_of_getElem? k1; have Bg := List.all_eq_true.1 n6 _ zZ; have J8 : vw = .full := by
           unfold JG at Bg; rw [Bool.and_eq_true] at Bg
           cases vw with
           | full => rfl
           | «from» _ => cases Bg.1
           | sub _ _ => cases Bg.1
         subst J8; have hxr := hl.2 j _ _ k1 hxj; have hs := hxr.2.2 B hA; have ha := vt h hA; have hρ : ρ (.sp s k) = some (.cI i j) := hp (.sp s k, .cI i j) (by
           have := uL (.cI i) 0 us j (.sp s k) k3; simpa [jH] using this)
         have Yk : (fun k => FK c cs[k]?) j = c.lc s k := by
           show FK c cs[j]? = _; rw [k1]; rfl
         show OwnAt (c.map ρ) w (.cI i j) ((fun k => FK c cs[k]?) j) { B with xs := View.full.app B.xs } x; rw [Yk]; refine ⟨hxr.1, hs, hB, ?_⟩; show match c.lc s k with
           | .nil => B.xs = []
           | .at b off cap => _
         unfold cu at ha
         cases iA : c.lc s k with
         | nil => rw [iA] at ha; exact ha
         | «at» b off cap =>
           rw [iA] at ha; obtain ⟨h0, h2, h3, h4⟩ := ha; rw [hB] at h0; exact ⟨(Cz.ku h0).trans hρ, h2, h3, h4.map hρ⟩
       | _ => trivial
 | one cx =>
   cases cx with
   | ptr b g off =>
     unfold eo at he; simp only at he
     cases hb : dE st b g with
     | none => simp [hb] at he
     | some cs =>
       simp only [hb] at he
       cases hq : fc st true cs with
       | none => simp [hq] at he
       | some p =>
         obtain ⟨os, us, rs⟩ := p; simp only [hq] at he; obtain ⟨ho, vI⟩ := aI he; have ho1 := Nat.eq_of_beq_eq_true ho; simp only [Option.some.injEq, Prod.mk.injEq] at vI; obtain ⟨rfl, rfl, rfl, rfl⟩ := vI; subst ho1; obtain ⟨sl, k1, k2, k3⟩ := il hb; obtain ⟨h1, vs, ty, h2, h3⟩ := h.boxes b sl cs k1 k3; obtain ⟨g1, g2⟩ := vals _ _ _ _ _ _ h3 hq; refine ⟨fun l hl => ?_, fun l hl => List.mem_cons_of_mem _ hl, jH i (.box os) [.box b] us, by rw [mB]; rfl, mC _ _ _ _, fun ρ hp hr => ⟨c.bx b, vs, ty, hx.2.2 cs hb, ?_, h2, g2 ρ (fun p m9 => hp p (List.mem_append_right _ m9)) hr⟩⟩
         · rcases List.mem_cons.1 hl with rfl | hl
           · rfl
           · exact g1 l hl
         · exact (Cz.ku h1).trans (hp (.box b, .su i) (by simp [jH]))
   | ref s j g vw =>
     unfold eo at he; have other : (match fc st m.ob [.ref s j g vw] with | some (os, u, r) => some (AV.val false os, cn u, cn u, r) | none => none) = some (av, u, q, r) → (∀ l ∈ u, l.real = true) ∧ (∀ l ∈ q, l ∈ u) ∧
         ∃ tb : List (Lb × Lb), tb.map (·.1) = u ∧ (∀ p ∈ tb, p.2.j9 = true) ∧ ∀ ρ : Lb → Option Lb, (∀ p ∈ tb, ρ p.1 = some p.2) → (∀ p ∈ r, ρ (.sp p.1 p.2) = none) → ru (c.map ρ) w i (yK c (.one (.ref s j g vw))) av x := by
       intro he
       cases hq : fc st m.ob [.ref s j g vw] with
       | none => simp [hq] at he
       | some p =>
         obtain ⟨os, us, rs⟩ := p; simp only [hq, Option.some.injEq, Prod.mk.injEq] at he; obtain ⟨rfl, rfl, rfl, rfl⟩ := he; exact single _ _ _ _ _ hx hq
     cases m with
     | shr => exact other he
     | own => exact other he
     | pick _ => exact other he
     | bQ => exact other he
     | io =>
       cases vw with
       | full =>
         cases hA : bd st s j g with
         | none => simp [hA] at he
         | some A =>
           simp only [hA] at he; obtain ⟨ho, vI⟩ := aI he; rw [Bool.and_eq_true] at ho; have ho := ho.1; simp only [Option.some.injEq, Prod.mk.injEq] at vI; obtain ⟨rfl, rfl, rfl, rfl⟩ := vI; refine ⟨by simp [Lb.real], by simp, [(.sp s j, .cI i 0)], rfl, by simp [Lb.j9], fun ρ hp _ => ?_⟩; have ha := vt h hA; have hs := hx.2.2 A hA; have hρ : ρ (.sp s j) = some (.cI i 0) := hp (.sp s j, .cI i 0) (by simp); refine ⟨hx.1, hs, ho, ?_⟩; show match c.lc s j with
             | .nil => A.xs = []
             | .at b off cap => _
           unfold cu at ha
           cases iA : c.lc s j with
           | nil => rw [iA] at ha; exact ha
           | «at» b off cap =>
             rw [iA] at ha; obtain ⟨h0, h2, h3, h4⟩ := ha; rw [ho] at h0; exact ⟨(Cz.ku h0).trans hρ, h2, h3, h4.map hρ⟩
       | «from» _ => simp at he
       | sub _ _ => simp at he
   | _ =>
     unfold eo at he; simp only at he
     split at he
     · rename_i os us rs hq; simp only [Option.some.injEq, Prod.mk.injEq] at he; obtain ⟨rfl, rfl, rfl, rfl⟩ := he; exact single _ _ _ _ _ hx hq
     · cases he
theorem BQ {w0 : World} {mu : Mu} {c : Cz} {st : St} {a : Act} {w : World} (h : Rel w0 mu c st a w) : (ms : List (Pm × V)) → (i : Nat) → (xs : List Value) → ms.length = xs.length → (∀ (k : Nat) (m : Pm × V) (x : Value), ms[k]? = some m → xs[k]? = some x → eF c st w m.2 x) →
   {eA : List AV} → {u q : List Lb} → {r : List (Nat × Nat)} → iM st ms = some (eA, u, q, r) →
   (∀ l ∈ u, l.real = true) ∧ (∀ l ∈ q, l ∈ u) ∧ ∃ tb : List (Lb × Lb), tb.map (·.1) = u ∧ (∀ p ∈ tb, p.2.j9 = true) ∧ eA.length = ms.length ∧
     ∀ (ρ : Lb → Option Lb) (lc : Nat → Nat → Loc), (∀ (k : Nat) (m : Pm × V), ms[k]? = some m → lc (i + k) = yK c m.2) → (∀ p ∈ tb, ρ p.1 = some p.2) → (∀ p ∈ r, ρ (.sp p.1 p.2) = none) → wg (c.map ρ) w lc i eA xs
 | [], i, xs, hl, hx, eA, u, q, r, he => by
   simp only [iM, Option.some.injEq, Prod.mk.injEq] at he; obtain ⟨rfl, rfl, rfl, rfl⟩ := he; simp at hl; exact ⟨by simp, by simp, [], rfl, by simp, rfl, fun ρ lc _ _ _ => List.length_eq_zero_iff.1 hl.symm⟩
 | (m, v) :: ms, i, xs, hl, hx, eA, u, q, r, he => by
   cases xs with
   | nil => simp at hl
   | cons x xs =>
     unfold iM at he
     cases h1 : eo st m v with
     | none => simp [h1] at he
     | some p1 =>
       obtain ⟨av, u1, q1, r1⟩ := p1
       cases h2 : iM st ms with
       | none => simp [h1, h2] at he
       | some p2 =>
         obtain ⟨Mj, u2, q2, r2⟩ := p2; simp only [h1, h2, Option.some.injEq, Prod.mk.injEq] at he; obtain ⟨rfl, rfl, rfl, rfl⟩ := he; obtain ⟨a1, a2, ta, a4, a5, a3⟩ := HS h (hx 0 (m, v) x rfl rfl) h1 i; obtain ⟨b1, b2, tb, b3, b4, b6, b5⟩ := BQ h ms (i + 1) xs (by simpa using hl) (fun k m x hm vn => hx (k + 1) m x (by simpa using hm) (by simpa using vn)) h2; refine ⟨fun l hl => ?_, fun l hl => ?_, ta ++ tb, by simp [a4, b3], fun p hp => ?_, by simp [b6], fun ρ lc iA hp hr => ?_⟩
         · rcases List.mem_append.1 hl with hl | hl
           · exact a1 l hl
           · exact b1 l hl
         · rcases List.mem_append.1 hl with hl | hl
           · exact List.mem_append_left _ (a2 l hl)
           · exact List.mem_append_right _ (b2 l hl)
         · rcases List.mem_append.1 hp with hp | hp
           · exact a5 p hp
           · exact b4 p hp
         · refine ⟨x, xs, rfl, ?_, b5 ρ lc (fun k m hm => ?_) (fun p m9 => hp p (List.mem_append_right _ m9)) (fun p m9 => hr p (List.mem_append_right _ m9))⟩
           · have := iA 0 (m, v) rfl; simp only [Nat.add_zero] at this; rw [this]; exact a3 ρ (fun p m9 => hp p (List.mem_append_left _ m9)) (fun p m9 => hr p (List.mem_append_left _ m9))
           · have := iA (k + 1) m (by simpa using hm)
             rwa [show i + (k + 1) = i + 1 + k by omega] at this
end Go.TM
namespace Go.TM
open Go Go.RowKit
structure ky (X : Lb → Prop) (w0 : World) (mu : Mu) (c : Cz) (st : St) (a : Act) (w : World) : Prop where
 fp : ∀ t, eF c st w (cz st t) (a.eval (.tmp t))
 boxes : ∀ s sl cs, ¬ X (.box s) → nth st s = some sl → sl.box = some cs → uA c st w s cs
 aP : ∀ s j sl A, ¬ X (.sp s j) → nth st s = some sl → nth sl.aP j = some (some A) → cu c w s j A
 owned : ∀ b l, c.own b = some l → b < w.heap.size ∧ (l = .out ∨ w0.heap.size ≤ b ∨ mu.m b)
 free : ∀ b, b < w0.heap.size → c.own b = none → mu.m b ∨ mu.ok b
 kept : w.os = w0.os ∧ w.tape = w0.tape ∧ w.output = w0.output ∧ w0.heap.size ≤ w.heap.size
 old : ∀ k, k < w0.heap.size → ¬ mu.m k → w.heap[k]? = w0.heap[k]?
 plain : a.defers = []
 ed : ∀ p ∈ mu.an, L3 c st p
theorem ky.rel {w0 : World} {mu : Mu} {c : Cz} {st : St} {a : Act} {w : World} (h : ky (fun _ => False) w0 mu c st a w) : Rel w0 mu c st a w :=
 ⟨h.fp, fun s sl cs => h.boxes s sl cs id, fun s j sl A => h.aP s j sl A id, h.owned, h.free, h.kept, h.old, h.plain, h.ed⟩
structure yL (ρ : Lb → Lb) : Prop where
 other : ∀ l, (l = .out ∨ l.real = true) → ρ l = l
def Cz.et (c : Cz) (ρ : Lb → Lb) (bx : Nat → Nat) (lc : Nat → Nat → Loc) : Cz := { bx := bx, lc := lc, own := fun b => (c.own b).map ρ }
theorem Cz.pg {c : Cz} {ρ : Lb → Lb} {bx : Nat → Nat} {lc : Nat → Nat → Loc} {b : Nat} : (c.et ρ bx lc).ok b ↔ c.ok b := by
 unfold Cz.ok Cz.et; simp
theorem oK (c : Cz) (w : World) (ρ : Lb → Lb) (bx : Nat → Nat) (lc : Nat → Nat → Loc) : iU w w c.ok (c.et ρ bx lc).ok := ⟨Nat.le_refl _, fun _ _ _ => rfl, fun _ _ h => Cz.pg.2 h⟩
theorem ky.et {X X' : Lb → Prop} {w0 : World} {mu : Mu} {c : Cz} {st bf : St} {a : Act} {w : World} (h : ky X w0 mu c st a w) {ρ : Lb → Lb} {bx : Nat → Nat} {lc : Nat → Nat → Loc} (hρ : yL ρ)
   (gQ : Fw c st w (c.et ρ bx lc) bf w) (SY : ∀ t, eF (c.et ρ bx lc) bf w (cz bf t) (a.eval (.tmp t)))
   (Yl : ∀ s sl cs, ¬ X' (.box s) → nth bf s = some sl → sl.box = some cs → uA (c.et ρ bx lc) bf w s cs)
   (xU : ∀ s j sl A, ¬ X' (.sp s j) → nth bf s = some sl → nth sl.aP j = some (some A) → cu (c.et ρ bx lc) w s j A) : ky X' w0 mu (c.et ρ bx lc) bf a w where
 fp := SY
 boxes := Yl
 aP := xU
 owned b l hb := by
   unfold Cz.et at hb; simp only [Option.map_eq_some_iff] at hb; obtain ⟨k, hk, e⟩ := hb; obtain ⟨h1, h2⟩ := h.owned b k hk; refine ⟨h1, h2.imp (fun e2 => ?_) id⟩; subst e2; rw [← e]; exact hρ.other _ (.inl rfl)
 free b hb h1 := h.free b hb (by unfold Cz.et at h1; simpa using h1)
 kept := h.kept
 old := h.old
 plain := h.plain
 ed p hp := gQ.ed (h.ed p hp)
theorem hU (st : St) (s j : Nat) (A : Option ig) (k : Nat) : ∃ f : Sl → Sl, (∀ x, (f x).v = x.v ∧ (f x).box = x.box ∧ (f x).bg = x.bg ∧ (f x).ag = x.ag ∧
     (∀ i, nth (f x).aP i = if k = s ∧ i = j then (nth x.aP i).map (fun _ => A) else nth x.aP i) ∧ (f x).ep = if k = s then x.ep + 1 else x.ep) ∧ nth (bP st s j A) k = (nth st k).map f := by
 unfold bP
 by_cases e : k = s
 · subst e; refine ⟨fun s => { s with aP := m6 (fun _ => A) s.aP j, ep := s.ep + 1 }, fun x => ⟨rfl, rfl, rfl, rfl, fun i => ?_, by simp⟩, jF _ _ _⟩; simp only [dF, true_and]
 · refine ⟨id, fun x => ⟨rfl, rfl, rfl, rfl, fun i => ?_, by simp [e]⟩, by rw [mz _ _ e]; simp⟩; simp [e]
theorem Am (st : St) (s j : Nat) (A : Option ig) (t : Nat) : my st t ≤ my (bP st s j A) t ∧ (my (bP st s j A) t = my st t → t ≠ s ∨ nth st t = none) := by
 obtain ⟨f, hf, hk⟩ := hU st s j A t; unfold my; rw [hk]
 cases nth st t with
 | none => simp
 | some x =>
   simp only [Option.map_some]; rw [(hf x).2.2.2.2.2]
   by_cases e : t = s
   · rw [if_pos e]; exact ⟨by omega, fun h => by omega⟩
   · rw [if_neg e]; exact ⟨Nat.le_refl _, fun _ => .inl e⟩
theorem uM (st : St) (s j : Nat) (A : Option ig) (t : Nat) : cz (bP st s j A) t = cz st t := by
 obtain ⟨f, hf, hk⟩ := hU st s j A t; unfold cz; rw [hk]
 cases nth st t with
 | none => rfl
 | some x => exact (hf x).1
theorem An (st : St) (s j : Nat) (A : Option ig) (t : Nat) : dv (bP st s j A) t = dv st t ∧ gD (bP st s j A) t = gD st t := by
 obtain ⟨f, hf, hk⟩ := hU st s j A t; unfold dv gD; rw [hk]
 cases nth st t with
 | none => exact ⟨rfl, rfl⟩
 | some x => exact ⟨(hf x).2.2.2.1, (hf x).2.2.1⟩
theorem D8 (st : St) (s j : Nat) (A : Option ig) (b g : Nat) : dE (bP st s j A) b g = dE st b g := by
 obtain ⟨f, hf, hk⟩ := hU st s j A b; unfold dE; rw [hk]
 cases nth st b with
 | none => rfl
 | some x => simp [(hf x).2.1, (hf x).2.2.1]
theorem ph {st : St} {a j g : Nat} {sl : Sl} {A : ig} (h1 : nth st a = some sl) (h2 : sl.ag = g) (h3 : nth sl.aP j = some (some A)) : bd st a j g = some A := by
 unfold bd; rw [h1]; simp [h2, h3]
theorem xV {c : Cz} {st : St} {w : World} {s j g : Nat} {A : Option ig} {A0 : ig} (h0 : bd st s j g = some A0 ∨ A = none) (hA : ∀ B, A = some B → B.r.width = A0.r.width ∧ B.xs.length = A0.xs.length) (ρ : Lb → Lb) :
   Fw c st w (c.et ρ c.bx c.lc) (bP st s j A) w where
 stays := oK c w ρ _ _
 refs a' j' g' A' hg ew := by
   obtain ⟨sl, k1, k2, k3⟩ := bA ew; obtain ⟨f, hf, hk⟩ := hU st s j A a'; rw [hk] at k1
   cases hx : nth st a' with
   | none => rw [hx] at k1; simp at k1
   | some x =>
     rw [hx] at k1; simp at k1; subst k1; rw [(hf x).2.2.2.1] at k2; rw [(hf x).2.2.2.2.1 j'] at k3
     by_cases e : a' = s ∧ j' = j
     · rw [if_pos e] at k3; obtain ⟨rfl, rfl⟩ := e
       cases hq : nth x.aP j' with
       | none => simp [hq] at k3
       | some A1 =>
         simp only [hq, Option.map_some, Option.some.injEq] at k3; rcases h0 with h0 | h0
         · obtain ⟨sl, k1', k2', k3'⟩ := bA h0; rw [hx] at k1'; cases k1'; obtain ⟨e1, e2⟩ := hA A' k3; refine ⟨A0, ph hx k2 k3', e1, e2, rfl, fun he => ?_⟩; rcases (Am st a' j' A a').2 he with h | h
           · exact absurd rfl h
           · rw [hx] at h; cases h
         · rw [h0] at k3; cases k3
     · rw [if_neg e] at k3; exact ⟨A', ph hx k2 k3, rfl, rfl, rfl, fun _ => ⟨rfl, fun _ _ _ _ => rfl⟩⟩
 zg b g' cs _ h := ⟨⟨cs, by rwa [D8] at h⟩, rfl⟩
 gA a' := by rw [(An st s j A a').1]; exact Nat.le_refl _
 gB a' := by rw [(An st s j A a').2]; exact Nat.le_refl _
 gE a' := (Am st s j A a').1
theorem uA.et {c : Cz} {st bf : St} {w : World} {ρ : Lb → Lb} {bx : Nat → Nat} {lc : Nat → Nat → Loc} (hρ : yL ρ) (gQ : Fw c st w (c.et ρ bx lc) bf w) {s : Nat} {cs : List CV} (h : uA c st w s cs) (hb : bx s = c.bx s) : uA (c.et ρ bx lc) bf w s cs := by
 refine h.go gQ hb ?_ rfl; unfold Cz.et; simp only; rw [h.1]; simp [hρ.other (.box s) (.inr rfl)]
theorem cu.et {c : Cz} {w : World} {ρ : Lb → Lb} {bx : Nat → Nat} {lc : Nat → Nat → Loc} (hρ : yL ρ) {s j : Nat} {A : ig} (h : cu c w s j A) (hl : lc s j = c.lc s j) : cu (c.et ρ bx lc) w s j A := by
 refine h.go (oK c w ρ bx lc) hl (fun b h0 => ⟨rfl, ?_⟩); unfold Cz.et; simp only; rw [h0]; simp [hρ.other (.sp s j) (.inr rfl)]
theorem qM : yL id := ⟨fun _ _ => rfl⟩
theorem ky.kill {X : Lb → Prop} {w0 : World} {mu : Mu} {c : Cz} {st : St} {a : Act} {w : World} (h : ky X w0 mu c st a w) (s j : Nat) : ky (fun l => X l ∧ l ≠ .sp s j) w0 mu (c.et id c.bx c.lc) (bP st s j none) a w ∧ Fw c st w (c.et id c.bx c.lc) (bP st s j none) w := by
 have gQ : Fw c st w (c.et id c.bx c.lc) (bP st s j none) w := xV (g := 0) (A0 := { r := .nil, own := false, xs := [] }) (.inr rfl) (fun _ e => by cases e) id; refine ⟨h.et qM gQ (fun t => by rw [uM]; exact gQ.m8 (h.fp t)) (fun k sl cs hX hs hb => ?_) (fun k i sl A hX hs hA => ?_), gQ⟩
 · obtain ⟨f, hf, hk⟩ := hU st s j none k; rw [hk] at hs
   cases hx : nth st k with
   | none => rw [hx] at hs; simp at hs
   | some x =>
     rw [hx] at hs; simp at hs; subst hs; rw [(hf x).2.1] at hb; exact (h.boxes k x cs (fun HT => hX ⟨HT, by simp⟩) hx hb).et qM gQ rfl
 · obtain ⟨f, hf, hk⟩ := hU st s j none k; rw [hk] at hs
   cases hx : nth st k with
   | none => rw [hx] at hs; simp at hs
   | some x =>
     rw [hx] at hs; simp at hs; subst hs; rw [(hf x).2.2.2.2.1 i] at hA
     by_cases e : k = s ∧ i = j
     · rw [if_pos e] at hA
       cases hq : nth x.aP i <;> simp [hq] at hA
     · rw [if_neg e] at hA; exact (h.aP k i x A (fun HT => hX ⟨HT, by rintro e'; injection e' with e1 e2; exact e ⟨e1, e2⟩⟩) hx hA).et qM rfl
theorem ky.mono {X X' : Lb → Prop} {w0 : World} {mu : Mu} {c : Cz} {st : St} {a : Act} {w : World} (h : ky X w0 mu c st a w) (hX : ∀ l, X l → X' l) : ky X' w0 mu c st a w :=
 ⟨h.fp, fun s sl cs hn => h.boxes s sl cs (fun h => hn (hX _ h)), fun s j sl A hn => h.aP s j sl A (fun h => hn (hX _ h)), h.owned, h.free, h.kept, h.old, h.plain, h.ed⟩
def rT (i z s j : Nat) : Lb → Lb
 | .cI x y => if x = i ∧ y = z then .sp s j else .cI x y
 | l => l
def qd (i b : Nat) : Lb → Lb
 | .cI x y => if x = i then .sp b y else .cI x y
 | .su x => if x = i then .box b else .su x
 | l => l
theorem CM (i z s j : Nat) : yL (rT i z s j) := ⟨fun l h => by cases l <;> simp [rT, Lb.real] at h ⊢⟩
theorem Bp (i b : Nat) : yL (qd i b) := ⟨fun l h => by cases l <;> simp [qd, Lb.real] at h ⊢⟩
theorem OwnAt.arr {c : Cz} {w : World} {l : Lb} {Ym : Loc} {A : ig} {v : Value} (h : OwnAt c w l Ym A v) {ρ : Lb → Lb} {bx : Nat → Nat} {lc : Nat → Nat → Loc} {s j : Nat} (hl : lc s j = Ym) (hρ : ρ l = .sp s j) : cu (c.et ρ bx lc) w s j A := by
 obtain ⟨_, _, h3, h4⟩ := h; unfold cu; show match lc s j with | .nil => _ | .at b off cap => _
 rw [hl]
 cases Ym with
 | nil => exact h4
 | «at» b off cap =>
   obtain ⟨g1, g2, g3, g4⟩ := h4; rw [h3]; have hq : ∀ k, c.own k = some l → (c.et ρ bx lc).own k = some (.sp s j) := by
     intro k hk; show (c.own k).map ρ = _; rw [hk]; simp [hρ]
   exact ⟨hq b g1, g2, g3, g4.go (fun _ => oK c w ρ bx lc) rfl (fun _ k hk => ⟨rfl, hq k hk⟩)⟩
theorem ky.io {X : Lb → Prop} {w0 : World} {mu : Mu} {c : Cz} {st : St} {a : Act} {w : World} (h : ky X w0 mu c st a w) {s j g i z : Nat} {A B : ig} {v : Value} (hA : bd st s j g = some A) (hw : B.r.width = A.r.width) (hn : B.xs.length = A.xs.length)
   (hB : OwnAt c w (.cI i z) (c.lc s j) B v) : ky (fun l => X l ∧ l ≠ .sp s j) w0 mu (c.et (rT i z s j) c.bx c.lc) (bP st s j (some B)) a w ∧ Fw c st w (c.et (rT i z s j) c.bx c.lc) (bP st s j (some B)) w := by
 have gQ : Fw c st w (c.et (rT i z s j) c.bx c.lc) (bP st s j (some B)) w := xV (.inl hA) (fun _ e => by cases e; exact ⟨hw, hn⟩) _; have ht := CM i z s j; refine ⟨h.et ht gQ (fun t => by rw [uM]; exact gQ.m8 (h.fp t)) (fun k sl cs hX hs hb => ?_) (fun k q sl A' hX hs ew => ?_), gQ⟩
 · obtain ⟨f, hf, hk⟩ := hU st s j (some B) k; rw [hk] at hs
   cases hx : nth st k with
   | none => rw [hx] at hs; simp at hs
   | some x =>
     rw [hx] at hs; simp at hs; subst hs; rw [(hf x).2.1] at hb; exact (h.boxes k x cs (fun HT => hX ⟨HT, by simp⟩) hx hb).et ht gQ rfl
 · obtain ⟨f, hf, hk⟩ := hU st s j (some B) k; rw [hk] at hs
   cases hx : nth st k with
   | none => rw [hx] at hs; simp at hs
   | some x =>
     rw [hx] at hs; simp at hs; subst hs; rw [(hf x).2.2.2.2.1 q] at ew
     by_cases e : k = s ∧ q = j
     · rw [if_pos e] at ew; obtain ⟨rfl, rfl⟩ := e
       cases hq : nth x.aP q with
       | none => simp [hq] at ew
       | some A1 =>
         simp only [hq, Option.map_some, Option.some.injEq] at ew; subst ew; exact hB.arr rfl (by simp [rT])
     · rw [if_neg e] at ew; exact (h.aP k q x A' (fun HT => hX ⟨HT, by rintro e'; injection e' with e1 e2; exact e ⟨e1, e2⟩⟩) hx ew).et ht rfl
theorem bI.cells {c : Cz} {w : World} {f : Nat → Lb} : (os : List OV) → (j : Nat) → (vs : List Value) → bI c w f j os vs →
   ∃ lcs : Nat → Loc, (∀ k A, nth (bq os) k = some (some A) → ∃ v, OwnAt c w (f (j + k)) (lcs (j + k)) A v) ∧
     ∀ (c2 : Cz) (hM : St) (d g : Nat), (∀ b, c.ok b → c2.ok b) → (∀ k, k < os.length → c2.lc d (j + k) = lcs (j + k)) → (∀ k A, k < os.length → bd hM d (j + k) g = some A → nth (bq os) k = some (some A)) → g ≤ dv hM d → fo c2 hM w (bm d g j os) vs
 | [], j, vs, h => by
   subst h; exact ⟨fun _ => .nil, fun k A hA => by simp [bq] at hA, fun _ _ _ _ _ _ _ _ => ⟨rfl, fun i x v hx => by simp [bm] at hx⟩⟩
 | o :: os, j, vs, h => by
   obtain ⟨v, l, rfl, hh, sy⟩ : ∃ v l, vs = v :: l ∧ bI c w f (j + 1) os l ∧ ∃ lc, (∀ A, o.arr = some A → OwnAt c w (f j) lc A v) ∧ ∀ (c2 : Cz) (hM : St) (d g : Nat), (∀ b, c.ok b → c2.ok b) → c2.lc d j = lc → (∀ A, bd hM d j g = some A → o.arr = some A) → g ≤ dv hM d →
       ∃ x, bm d g j (o :: os) = x :: bm d g (j + 1) os ∧ jG c2 hM w x v := by
     cases o with
     | int k n => obtain ⟨l, h1, h2⟩ := h; exact ⟨_, l, h1, h2, .nil, (fun _ e => by cases e), fun c2 hM d g _ _ _ _ => ⟨_, rfl, rfl⟩⟩
     | bool b => obtain ⟨l, h1, h2⟩ := h; exact ⟨_, l, h1, h2, .nil, (fun _ e => by cases e), fun c2 hM d g _ _ _ _ => ⟨_, rfl, rfl⟩⟩
     | str b => obtain ⟨l, h1, h2⟩ := h; exact ⟨_, l, h1, h2, .nil, (fun _ e => by cases e), fun c2 hM d g _ _ _ _ => ⟨_, rfl, rfl⟩⟩
     | ea => obtain ⟨l, h1, h2⟩ := h; exact ⟨_, l, h1, h2, .nil, (fun _ e => by cases e), fun c2 hM d g _ _ _ _ => ⟨_, rfl, rfl⟩⟩
     | shr r xs =>
       obtain ⟨v, l, h1, h2, h3⟩ := h; exact ⟨v, l, h1, h3, .nil, (fun _ e => by cases e), fun c2 hM d g gJ _ _ _ => ⟨.shr r xs, rfl, cr.stays ⟨Nat.le_refl _, fun _ _ _ => rfl, fun b _ hb => gJ b hb⟩ _ _ _ h2⟩⟩
     | k9 r xs =>
       obtain ⟨v, l, h1, ⟨b, o, e1, e2, e3, e4⟩, h3⟩ := h; exact ⟨v, l, h1, h3, .nil, (fun _ e => by cases e), fun c2 hM d g gJ _ _ _ => ⟨.rM r xs 0, rfl, b, o, e1, e2, gJ b e3, fun x hx => dt.stays ⟨Nat.le_refl _, fun _ _ _ => rfl, fun b _ hb => gJ b hb⟩ _ _ _ _ rfl (e4 x hx)⟩⟩
     | fn g rs xs =>
       obtain ⟨v, l, h1, h2, h3⟩ := h; exact ⟨v, l, h1, h3, .nil, (fun _ e => by cases e), fun c2 hM d g' gJ _ _ _ => ⟨.fn g rs xs, rfl, h2.stays ⟨Nat.le_refl _, fun _ _ _ => rfl, fun b _ hb => gJ b hb⟩⟩⟩
     | own A =>
       obtain ⟨v, l, h1, ⟨lc, h2⟩, h3⟩ := h; refine ⟨v, l, h1, h3, lc, (fun A' e => by cases e; exact h2), fun c2 hM d g _ iA xU hg => ⟨.ref d j g .full, rfl, h2.1, hg, fun A' ew => ?_⟩⟩; have e := xU A' ew
       cases e
       rw [iA]; exact h2.2.1
   obtain ⟨lc, q1, q2⟩ := sy; obtain ⟨lcs, g1, g2⟩ := bI.cells os (j + 1) l hh; refine ⟨fun k => if k = j then lc else lcs k, fun k A' ew => ?_, fun c2 hM d g gJ iA xU hg => ?_⟩
   · cases k with
     | zero =>
       simp only [bq, nth, Option.some.injEq] at ew; exact ⟨v, by simpa using q1 A' ew⟩
     | succ k =>
       have := g1 k A' ew; rw [show j + 1 + k = j + (k + 1) by omega] at this; show ∃ v, OwnAt c w (f (j + (k + 1))) (if j + (k + 1) = j then lc else lcs (j + (k + 1))) A' v; rw [if_neg (by omega)]; exact this
   · have eU := g2 c2 hM d g gJ (fun k hk => by
       have : c2.lc d (j + (k + 1)) = if j + (k + 1) = j then lc else lcs (j + (k + 1)) := iA (k + 1) (by simp; exact hk)
       rw [if_neg (by omega)] at this; rw [show j + 1 + k = j + (k + 1) by omega]; exact this) (fun k A' hk ew => by
         have := xU (k + 1) A' (by simp; exact hk) (by rw [show j + (k + 1) = j + 1 + k by omega]; exact ew); exact this) hg
     have h0 : c2.lc d j = lc := by
       have := iA 0 (by simp); simpa using this
     obtain ⟨x, e1, e2⟩ := q2 c2 hM d g gJ h0 (fun A hA => by
       have := xU 0 A (by simp) hA; simpa [bq, nth] using this) hg
     rw [e1]; refine ⟨by simp [eU.1], fun k y z hy hz => ?_⟩
     cases k with
     | zero =>
       simp only [List.getElem?_cons_zero, Option.some.injEq] at hy hz; subst hy hz; exact e2
     | succ k => exact eU.2 k y z (by simpa using hy) (by simpa using hz)
theorem ky.boxed {X : Lb → Prop} {w0 : World} {mu : Mu} {c : Cz} {st : St} {a : Act} {w : World} (h : ky X w0 mu c st a w) {b g i : Nat} {s0 : Sl} {Jm : List CV} {os : List OV} {v : Value} (jy : nth st b = some s0) (zj : dE st b g = some Jm) (hv : v = .pointer (some ⟨c.bx b, 0, none⟩))
   (hB : BO c w i os v) : ∃ c', ky (fun l => X l ∧ l ≠ .box b) w0 mu c' (m6 (fun s => { s with box := some (bm b (s0.ag + 1) 0 os), aP := bq os, ag := s0.ag + 1 }) st b) a w ∧
     Fw c st w c' (m6 (fun s => { s with box := some (bm b (s0.ag + 1) 0 os), aP := bq os, ag := s0.ag + 1 }) st b) w ∧ Pass c c' (fun l => (∀ y, l ≠ .cI i y) ∧ l ≠ .su i) := by
 obtain ⟨od, vs, ty, h1, h2, h3, h4⟩ := hB; obtain ⟨lcs, g1, g2⟩ := bI.cells os 0 _ h4; rw [hv] at h1; have e : c.bx b = od := by injection h1 with h1; injection h1 with h1; injection h1
 obtain ⟨_, SZ, L6, Mk⟩ := il zj; rw [jy] at SZ; cases SZ
 let c' := c.et (qd i b) c.bx (fun s j => if s = b then lcs j else c.lc s j)
 let bf := m6 (fun s => { s with box := some (bm b (s0.ag + 1) 0 os), aP := bq os, ag := s0.ag + 1 }) st b
 have hn : ∀ s, nth bf s = if s = b then some { s0 with box := some (bm b (s0.ag + 1) 0 os), aP := bq os, ag := s0.ag + 1 } else nth st s := by
   intro s; show nth (m6 _ st b) s = _; rw [dF]
   by_cases e : s = b
   · subst e; simp [jy]
   · simp [e]
 have xW : dv bf b = s0.ag + 1 := by unfold dv; rw [hn]; simp
 have D9 : dv st b = s0.ag := by unfold dv; rw [jy]
 have ht := Bp i b; have gQ : Fw c st w c' bf w := {
   stays := oK c w _ _ _
   refs := fun a' j' g' A' hg ew => by
     obtain ⟨sl, k1, k2, k3⟩ := bA ew; rw [hn] at k1
     by_cases e : a' = b
     · rw [if_pos e] at k1
       cases k1
       subst e; simp only at k2; omega
     · rw [if_neg e] at k1; exact ⟨A', ph k1 k2 k3, rfl, rfl, by show (if a' = b then _ else _) = _; rw [if_neg e], fun _ => ⟨rfl, fun _ _ _ _ => rfl⟩⟩
   zg := fun b' g' nc hg Fy => by
     obtain ⟨sl, k1, k2, k3⟩ := il Fy; rw [hn] at k1
     by_cases e : b' = b
     · rw [if_pos e] at k1
       cases k1
       subst e; exact ⟨⟨Jm, by unfold dE; rw [jy]; simp at k2; simp [k2, Mk]⟩, rfl⟩
     · rw [if_neg e] at k1; exact ⟨⟨nc, by unfold dE; rw [k1]; simp [k2, k3]⟩, rfl⟩
   gA := fun a' => by
     by_cases e : a' = b
     · subst e; rw [xW, D9]; omega
     · unfold dv; rw [hn, if_neg e]; exact Nat.le_refl _
   gB := fun a' => by
     by_cases e : a' = b
     · subst e; unfold gD; rw [hn, if_pos rfl, jy]; exact Nat.le_refl _
     · unfold gD; rw [hn, if_neg e]; exact Nat.le_refl _
   gE := fun a' => by
     by_cases e : a' = b
     · subst e; unfold my; rw [hn, if_pos rfl, jy]; exact Nat.le_refl _
     · unfold my; rw [hn, if_neg e]; exact Nat.le_refl _ }
 have Ea : ∀ k A, bd bf b k (s0.ag + 1) = some A → nth (bq os) k = some (some A) := by
   intro k A hA; obtain ⟨sl, k1, k2, k3⟩ := bA hA; rw [hn, if_pos rfl] at k1
   cases k1
   exact k3
 refine ⟨c', h.et ht gQ (fun t => ?_) (fun s sl cs hX hs hb => ?_) (fun s j sl A hX hs hA => ?_), gQ, ⟨fun k l hl hk => ?_, fun k hk => Cz.pg.2 hk⟩⟩
 · have : cz bf t = cz st t := by
     unfold cz; rw [hn]
     by_cases e : t = b
     · subst e; rw [if_pos rfl, jy]
     · rw [if_neg e]
   rw [this]; exact gQ.m8 (h.fp t)
 · rw [hn] at hs
   by_cases e' : s = b
   · subst e'; rw [if_pos rfl] at hs
     cases hs
     simp only [Option.some.injEq] at hb; subst hb; refine ⟨?_, vs, ty, by show w.heap[c.bx s]? = _; rw [e]; exact h3, ?_⟩
     · show (c.own (c.bx s)).map (qd i s) = some (.box s); rw [e, h2]; simp [qd]
     · exact g2 c' bf s (s0.ag + 1) (fun b hb => Cz.pg.2 hb) (fun k _ => by show (if s = s then _ else _) = _; rw [if_pos rfl]) (fun k A _ hA => Ea k A (by simpa using hA)) (by rw [xW]; exact Nat.le_refl _)
   · rw [if_neg e'] at hs; exact (h.boxes s sl cs (fun HT => hX ⟨HT, by rintro e2; injection e2 with e2; exact e' e2⟩) hs hb).et ht gQ rfl
 · rw [hn] at hs
   by_cases e' : s = b
   · subst e'; rw [if_pos rfl] at hs
     cases hs
     obtain ⟨v', qc⟩ := g1 j A hA; exact qc.arr (by simp) (by simp [qd])
   · rw [if_neg e'] at hs; exact (h.aP s j sl A (fun HT => hX ⟨HT, by simp⟩) hs hA).et ht (by simp [e'])
 · show (c.own k).map (qd i b) = _; rw [hk]; simp only [Option.map_some, Option.some.injEq]
   cases l with
   | cI x y => simp only [qd]; rw [if_neg]; rintro rfl; exact hl.1 y rfl
   | su x => simp only [qd]; rw [if_neg]; rintro rfl; exact hl.2 rfl
   | _ => rfl
end Go.TM
namespace Go.TM
open Go Go.RowKit
def Lb.Eb : Lb → Option Lb
 | .cI i j => some (.cI i j)
 | .su i => some (.su i)
 | .jw j => some (.jw j)
 | _ => none
noncomputable def Cz.merge (c c1 : Cz) (n : Nat) (m : Nat → Prop) : Cz :=
 { bx := c.bx, lc := c.lc, own := fun b => have := Classical.propDecidable (b < n ∧ ¬ m b); if b < n ∧ ¬ m b then c.own b else (c1.own b).bind Lb.Eb }
theorem Cz.sE {c c1 : Cz} {n : Nat} {m : Nat → Prop} {b : Nat} (h : b < n ∧ ¬ m b) : (c.merge c1 n m).own b = c.own b := by
 unfold Cz.merge; simp only; rw [if_pos h]
theorem Cz.xX {c c1 : Cz} {n : Nat} {m : Nat → Prop} {b : Nat} (h : ¬ (b < n ∧ ¬ m b)) : (c.merge c1 n m).own b = (c1.own b).bind Lb.Eb := by
 unfold Cz.merge; simp only; rw [if_neg h]
theorem qN (st : St) (s : Nat) : nth (wI st) s = (nth st s).map fun x => { x with ep := x.ep + 1 } := by
 unfold wI; rw [gC, gC, List.getElem?_map]
theorem HU (st : St) (t : Nat) : cz (wI st) t = cz st t := by
 unfold cz; rw [qN]
 cases nth st t <;> rfl
theorem HV (st : St) (a j g : Nat) : bd (wI st) a j g = bd st a j g := by
 unfold bd; rw [qN]
 cases nth st a <;> rfl
theorem HW (st : St) (b g : Nat) : dE (wI st) b g = dE st b g := by
 unfold dE; rw [qN]
 cases nth st b <;> rfl
theorem Ec (st : St) (a : Nat) : dv (wI st) a = dv st a ∧ gD (wI st) a = gD st a := by
 unfold dv gD; rw [qN]
 cases nth st a <;> exact ⟨rfl, rfl⟩
theorem Ed (st : St) (a : Nat) : my st a ≤ my (wI st) a ∧ (my (wI st) a = my st a → nth st a = none) := by
 unfold my; rw [qN]
 cases nth st a <;> simp
theorem Rel.S0 {w0 : World} {mu : Mu} {c : Cz} {st : St} {a : Act} {w : World} (h : Rel w0 mu c st a w) {μ : Mu} {c1 : Cz} {w' : World} (hb : HP w μ c1 w') {X : Lb → Prop} (hm : ∀ b, μ.m b → ∃ l, c.own b = some l ∧ X l) (hX : ∀ l, X l → l ≠ .out) :
   ky X w0 mu (c.merge c1 w.heap.size μ.m) (wI st) a w' ∧ Fw c st w (c.merge c1 w.heap.size μ.m) (wI st) w' ∧ (∀ b l, c.own b = some l → ¬ X l → w'.heap[b]? = w.heap[b]? ∧ (c.merge c1 w.heap.size μ.m).own b = c.own b) ∧ (∀ b l, l.Eb = some l → c1.own b = some l → (c.merge c1 w.heap.size μ.m).own b = some l) ∧ ((∀ b, μ.ok b → c.own b = none) → ∀ b, c1.ok b → (c.merge c1 w.heap.size μ.m).ok b) := by
 have mj : w.heap.size ≤ w'.heap.size := hb.kept.2.2.2; have rP : iU w w' c.ok (c.merge c1 w.heap.size μ.m).ok := {
   size := mj
   block := fun b dC gJ => hb.old b dC (fun BJ => by
     obtain ⟨l, hl, _⟩ := hm b BJ; unfold Cz.ok at gJ; rw [gJ] at hl; cases hl)
   ok := fun b dC gJ => by
     unfold Cz.ok; rw [Cz.sE ⟨dC, fun BJ => by
       obtain ⟨l, hl, _⟩ := hm b BJ; unfold Cz.ok at gJ; rw [gJ] at hl; cases hl⟩]
     exact gJ }
 have gQ : Fw c st w (c.merge c1 w.heap.size μ.m) (wI st) w' := {
   stays := rP
   refs := fun a' j g A' _ hA => by
     rw [HV] at hA; refine ⟨A', hA, rfl, rfl, rfl, fun he => ?_⟩; have := (Ed st a').2 he; unfold bd at hA; rw [this] at hA
     cases hA
   zg := fun b g cs _ hc => ⟨⟨cs, by rwa [HW] at hc⟩, rfl⟩
   gA := fun a' => by rw [(Ec st a').1]; exact Nat.le_refl _
   gB := fun a' => by rw [(Ec st a').2]; exact Nat.le_refl _
   gE := fun a' => (Ed st a').1 }
 have keep : ∀ b l, c.own b = some l → ¬ X l → w'.heap[b]? = w.heap[b]? ∧ (c.merge c1 w.heap.size μ.m).own b = c.own b := by
   intro b l hl hn; have dC := (h.owned b l hl).1; have BJ : ¬ μ.m b := fun BJ => by
     obtain ⟨l', um, hx⟩ := hm b BJ; rw [hl] at um; cases um; exact hn hx
   exact ⟨hb.old b dC BJ, Cz.sE ⟨dC, BJ⟩⟩
 refine ⟨⟨fun t => by rw [HU]; exact gQ.m8 (h.fp t), fun s sl cs hn hs zj => ?_, fun s j sl A hn hs hA => ?_, fun b l hl => ?_, fun b dC hl => ?_, ?_, fun k hk Xm => ?_, h.plain, fun p hp => gQ.ed (h.ed p hp)⟩, gQ, keep, fun b l hk hl => ?_, fun gJ b h1 => ?_⟩
 · rw [qN] at hs; obtain ⟨Nk, jy, rfl⟩ := Option.map_eq_some_iff.1 hs; have h0 := h.boxes s Nk cs jy zj; obtain ⟨k1, k2⟩ := keep _ _ h0.1 hn; exact h0.go gQ rfl k2 k1
 · rw [qN] at hs; obtain ⟨Nk, jy, rfl⟩ := Option.map_eq_some_iff.1 hs; have h0 := h.aP s j Nk A jy hA; exact h0.go rP rfl (fun b g1 => keep b _ g1 hn)
 · by_cases e : b < w.heap.size ∧ ¬ μ.m b
   · rw [Cz.sE e] at hl; have := h.owned b l hl; exact ⟨Nat.lt_of_lt_of_le this.1 mj, this.2⟩
   · rw [Cz.xX e] at hl; obtain ⟨k, hk, e2⟩ := Option.bind_eq_some_iff.1 hl; obtain ⟨g1, g2⟩ := hb.owned b k hk; refine ⟨g1, .inr ?_⟩; have Bl : k ≠ .out := by rintro rfl; simp [Lb.Eb] at e2
     by_cases dC : b < w.heap.size
     · have BJ : μ.m b := Classical.not_not.1 (fun h => e ⟨dC, h⟩); obtain ⟨l', um, hx⟩ := hm b BJ; rcases (h.owned b l' um).2 with q | q
       · exact absurd q (hX l' hx)
       · exact q
     · have := h.kept.2.2.2; exact .inl (by omega)
 · by_cases e : b < w.heap.size ∧ ¬ μ.m b
   · rw [Cz.sE e] at hl; exact h.free b dC hl
   · have Od : b < w.heap.size := Nat.lt_of_lt_of_le dC h.kept.2.2.2; have BJ : μ.m b := Classical.not_not.1 (fun h => e ⟨Od, h⟩); obtain ⟨l', um, hx⟩ := hm b BJ; rcases (h.owned b l' um).2 with q | q | q
     · exact absurd q (hX l' hx)
     · omega
     · exact .inl q
 · exact ⟨hb.kept.1.trans h.kept.1, hb.kept.2.1.trans h.kept.2.1, hb.kept.2.2.1.trans h.kept.2.2.1, Nat.le_trans h.kept.2.2.2 mj⟩
 · have Od : k < w.heap.size := Nat.lt_of_lt_of_le hk h.kept.2.2.2; rw [hb.old k Od (fun BJ => ?_)]
   · exact h.old k hk Xm
   · obtain ⟨l', um, hx⟩ := hm k BJ; rcases (h.owned k l' um).2 with q | q | q
     · exact hX l' hx q
     · omega
     · exact Xm q
 · rw [Cz.xX (fun e => ?_), hl]
   · exact hk
   · rcases (hb.owned b l hl).2 with q | q | q
     · subst q; simp [Lb.Eb] at hk
     · omega
     · exact e.2 q
 · unfold Cz.ok at h1 ⊢
   by_cases e : b < w.heap.size ∧ ¬ μ.m b
   · rw [Cz.sE e]; rcases hb.free b e.1 h1 with q | q
     · exact absurd q e.2
     · exact gJ b q
   · rw [Cz.xX e, h1]; rfl
theorem Cz.Ee (c : Cz) (bx : Nat → Nat) (lc : Nat → Nat → Loc) : (c.et id bx lc).own = c.own := by
 funext b
 unfold Cz.et; simp
theorem wh {w0 : World} {mu : Mu} {a : Act} {w : World} : (ks : List Lb) → {X : Lb → Prop} → {c : Cz} → {st : St} → ky X w0 mu c st a w →
   ∃ c', ky (fun l => X l ∧ ∀ s j, Lb.sp s j ∈ ks → l ≠ .sp s j) w0 mu c' (pc st ks) a w ∧ Fw c st w c' (pc st ks) w ∧ c'.own = c.own
 | [], X, c, st, h => ⟨c, h.mono (fun l hl => ⟨hl, by simp⟩), Fw.refl c st w, rfl⟩
 | k :: ks, X, c, st, h => by
   have skip : pc st (k :: ks) = pc st ks → (∀ s j, k ≠ .sp s j) → ∃ c', ky (fun l => X l ∧ ∀ s j, Lb.sp s j ∈ k :: ks → l ≠ .sp s j) w0 mu c' (pc st (k :: ks)) a w ∧ Fw c st w c' (pc st (k :: ks)) w ∧ c'.own = c.own := by
     intro e hk; obtain ⟨c', h1, h2, h3⟩ := wh ks h; rw [e]; refine ⟨c', h1.mono (fun l hl => ⟨hl.1, fun s j hm => ?_⟩), h2, h3⟩; rcases List.mem_cons.1 hm with e2 | hm
     · exact absurd e2.symm (hk s j)
     · exact hl.2 s j hm
   cases k with
   | sp s j =>
     obtain ⟨h1, h2⟩ := h.kill s j; obtain ⟨c', h3, h4, h5⟩ := wh ks h1; refine ⟨c', h3.mono (fun l hl => ⟨hl.1.1, fun s' j' hm => ?_⟩), h2.trans h4, h5.trans (Cz.Ee _ _ _)⟩; rcases List.mem_cons.1 hm with e2 | hm
     · cases e2; exact hl.1.2
     · exact hl.2 s' j' hm
   | _ => exact skip rfl (by simp)
def xY (m : Pm) : V → List Lb
 | .one (.ptr b _ _) => [.box b]
 | .one (.ref a j _ _) => match m with
   | .io => [.sp a j]
   | _ => []
 | .agg cs => match m with
   | .bQ => cs.filterMap fun x => match x with | .ref a j _ _ => some (.sp a j) | _ => none
   | _ => []
 | _ => []
def J9 (st : St) (m : Pm × V) (av : AV) : Prop := ∃ u q r, eo st m.1 m.2 = some (av, u, q, r)
theorem Ef {st : St} {own : Bool} : (cs : List CV) → {os : List OV} → {u : List (Option Lb)} → {r : List (Nat × Nat)} → fc st own cs = some (os, u, r) → ∀ (k : Nat) {a j g : Nat} , cs[k]? = some (.ref a j g .full) → os[k]? = (bd st a j g).map fun A => bif own && A.own then .own A else .shr A.r A.xs
 | [], _, _, _, h => by intro k a j g hk; simp at hk
 | x :: cs, os, u, r, h => by
   unfold fc at h
   cases hc : gk st own x with
   | none => simp [hc] at h
   | some p =>
     obtain ⟨o, u1, r1⟩ := p
     cases hq : fc st own cs with
     | none => simp [hc, hq] at h
     | some q =>
       obtain ⟨w6, us, rs⟩ := q; simp only [hc, hq, Option.some.injEq, Prod.mk.injEq] at h; obtain ⟨rfl, rfl, _⟩ := h; intro k a j g hk
       cases k with
       | succ k => simpa using Ef cs hq k (by simpa using hk)
       | zero =>
         simp only [List.getElem?_cons_zero, Option.some.injEq] at hk; subst hk; unfold gk at hc; simp only at hc
         cases hA : bd st a j g with
         | none => simp [hA] at hc
         | some A =>
           simp only [hA] at hc
           cases hm : A.md.Ct with
           | true => simp [hm] at hc
           | false =>
           simp only [hm, cond_false, View.isFull, Bool.or_true, Bool.and_true] at hc
           cases hb : (own && A.own) <;> simp only [hb, cond_true, cond_false, Option.some.injEq, Prod.mk.injEq] at hc <;> obtain ⟨rfl, _⟩ := hc <;> simp [hb, View.app]
theorem Ao {w0 wb : World} {mu : Mu} {a : Act} {w : World} {c0 : Cz} {uN : St} {i : Nat} {As : List (Option ig)} : (cs : List CV) → (j0 : Nat) → (us : List Value) → {X : Lb → Prop} → {c : Cz} → {st bf : St} → ky X w0 mu c st a w → Fw c0 uN wb c st w →
   (∀ (k : Nat) (x : CV) (v : Value), cs[k]? = some x → us[k]? = some v → jG c0 uN wb x v) →
   (∀ (k s j g : Nat) (vw : View), cs[k]? = some (.ref s j g vw) → ∃ A B u, bd uN s j g = some A ∧ nth As (j0 + k) = some (some B) ∧ us[k]? = some u ∧ B.r.width = A.r.width ∧ B.xs.length = A.xs.length ∧ OwnAt c w (.cI i (j0 + k)) (c0.lc s j) B u) →
   zM st j0 cs As = some bf →
   ∃ c', ky (fun l => X l ∧ ∀ s j g vw, CV.ref s j g vw ∈ cs → l ≠ .sp s j) w0 mu c' bf a w ∧ Fw c0 uN wb c' bf w ∧ Pass c c' (fun l => ∀ y, l ≠ .cI i y)
 | [], j0, us, X, c, st, bf, h, gQ, _, _, hv => by
   simp only [zM, Option.some.injEq] at hv; subst hv; exact ⟨c, h.mono (fun l hl => ⟨hl, by simp⟩), gQ, ⟨fun _ _ _ h => h, fun _ h => h⟩⟩
 | x :: cs, j0, us, X, c, st, bf, h, gQ, hr, hB, hv => by
   have skip : (∀ s j g vw, x ≠ .ref s j g vw) → zM st (j0 + 1) cs As = some bf → ∃ c', ky (fun l => X l ∧ ∀ s j g vw, CV.ref s j g vw ∈ x :: cs → l ≠ .sp s j) w0 mu c' bf a w ∧ Fw c0 uN wb c' bf w ∧ Pass c c' (fun l => ∀ y, l ≠ .cI i y) := by
     intro hx hv; obtain ⟨c', g1, g2, g3⟩ := Ao (i := i) cs (j0 + 1) us.tail h gQ (fun k y v hk hv => hr (k + 1) y v (by simpa using hk) (by simpa using hv)) (fun k s j g vw hk => by
       obtain ⟨A, B, u, q1, q2, q3, q4, q5, q6⟩ := hB (k + 1) s j g vw (by simpa using hk); refine ⟨A, B, u, q1, by rw [show j0 + 1 + k = j0 + (k + 1) by omega]; exact q2, by simpa using q3, q4, q5, by rw [show j0 + 1 + k = j0 + (k + 1) by omega]; exact q6⟩) hv
     refine ⟨c', g1.mono (fun l hl => ⟨hl.1, fun s j g vw hm => ?_⟩), g2, g3⟩; rcases List.mem_cons.1 hm with e | hm
     · exact absurd e.symm (hx s j g vw)
     · exact hl.2 s j g vw hm
   cases x with
   | ref s j g vw =>
     unfold zM at hv
     split at hv
     · rename_i B A1 NU S1; obtain ⟨A, B', u, q1, q2, q3, q4, q5, q6⟩ := hB 0 s j g vw rfl; rw [Nat.add_zero] at q2 q6; rw [NU] at q2; simp only [Option.some.injEq] at q2; subst q2; have S2 := hr 0 _ u rfl q3; obtain ⟨A0', p1, p2, p3, p4, _⟩ := gQ.refs s j g A1 S2.2.1 S1; rw [q1] at p1; cases p1; have Yn : OwnAt c w (.cI i j0) (c.lc s j) B u := by rw [p4]; exact q6
       obtain ⟨g1, g2⟩ := h.io S1 (q4.trans p2.symm) (q5.trans p3.symm) Yn; have BR : ∀ b l, l ≠ .cI i j0 → c.own b = some l → (c.et (rT i j0 s j) c.bx c.lc).own b = some l := by
         intro b l hl hb; show (c.own b).map _ = _; rw [hb]; simp only [Option.map_some, Option.some.injEq]
         cases l with
         | cI x y => simp only [rT]; rw [if_neg]; rintro ⟨rfl, rfl⟩; exact hl rfl
         | _ => rfl
       obtain ⟨c', k1, k2, k3⟩ := Ao (i := i) cs (j0 + 1) us.tail g1 (gQ.trans g2) (fun k y v hk hv => hr (k + 1) y v (by simpa using hk) (by simpa using hv)) (fun k s' j' g' Yo hk => by
         obtain ⟨A, B, u, q1, q2, q3, q4, q5, q6⟩ := hB (k + 1) s' j' g' Yo (by simpa using hk); refine ⟨A, B, u, q1, by rw [show j0 + 1 + k = j0 + (k + 1) by omega]; exact q2, by simpa using q3, q4, q5, ?_⟩; rw [show j0 + 1 + k = j0 + (k + 1) by omega]; exact q6.pass (fun b hb => BR b _ (by simp) hb) (.inl fun b hb => Cz.pg.2 hb)) hv
       refine ⟨c', k1.mono (fun l hl => ⟨hl.1.1, fun s' j' g' Yo hm => ?_⟩), k2, ⟨fun b l hl hb => k3.cI b l hl (BR b l (hl j0) hb), fun b hb => k3.ok b (Cz.pg.2 hb)⟩⟩; rcases List.mem_cons.1 hm with e | hm
       · cases e; exact hl.1.2
       · exact hl.2 s' j' g' Yo hm
     · cases hv
   | _ => exact skip (by simp) hv
theorem Ap {w0 wb : World} {mu : Mu} {a : Act} {w : World} {c0 : Cz} {uN : St} {lc : Nat → Nat → Loc} : (ms : List (Pm × V)) → (i : Nat) → (eA : List AV) → (xs : List Value) → (es : List XV) → {X : Lb → Prop} → {c : Cz} → {st bf : St} → ky X w0 mu c st a w → Fw c0 uN wb c st w →
   (∀ (k : Nat) (m : Pm × V) (x : Value), ms[k]? = some m → xs[k]? = some x → eF c0 uN wb m.2 x) → (∀ (k : Nat) (m : Pm × V) (av : AV), ms[k]? = some m → eA[k]? = some av → J9 uN m av) → ms.length = eA.length → ms.length = xs.length → (∀ (k : Nat) (m : Pm × V), ms[k]? = some m → lc (i + k) = yK c0 m.2) →
   jO c w lc i eA xs es → s5 st ms es = some bf →
   ∃ c', ky (fun l => X l ∧ ∀ m ∈ ms, l ∉ xY m.1 m.2) w0 mu c' bf a w ∧ Fw c0 uN wb c' bf w ∧ Pass c c' (fun l => (∃ j, l = .jw j) ∨ l.real = true)
 | [], i, eA, xs, es, X, c, st, bf, h, gQ, _, _, _, _, _, hx, hv => by
   cases es with
   | nil =>
     simp only [s5, Option.some.injEq] at hv; subst hv; exact ⟨c, h.mono (fun l hl => ⟨hl, by simp⟩), gQ, ⟨fun _ _ _ h => h, fun _ h => h⟩⟩
   | cons _ _ => simp [s5] at hv
 | (m, v) :: ms, i, [], xs, es, X, c, st, bf, h, gQ, hr, he, hn, Xn, iA, hx, hv => by simp at hn
 | (m, v) :: ms, i, av :: eA, [], es, X, c, st, bf, h, gQ, hr, he, hn, Xn, iA, hx, hv => by simp at Xn
 | (m, v) :: ms, i, av :: eA, x :: xs, es, X, c, st, bf, h, gQ, hr, he, hn, Xn, iA, hx, hv => by
   have S2 := hr 0 (m, v) x rfl rfl; obtain ⟨u, q, r, re⟩ := he 0 (m, v) av rfl rfl; have Oe := iA 0 (m, v) rfl; simp only [Nat.add_zero] at Oe; have XX : ∀ (k : Nat) (m : Pm × V) (x : Value), ms[k]? = some m → xs[k]? = some x → eF c0 uN wb m.2 x := fun k m' x' h1 h2 => hr (k + 1) m' x' (by simpa using h1) (by simpa using h2)
   have NR : ∀ (k : Nat) (m : Pm × V) (av : AV), ms[k]? = some m → eA[k]? = some av → J9 uN m av := fun k m' x' h1 h2 => he (k + 1) m' x' (by simpa using h1) (by simpa using h2)
   have N3 : ∀ (k : Nat) (m : Pm × V), ms[k]? = some m → lc (i + 1 + k) = yK c0 m.2 := fun k m' h1 => by
     have := iA (k + 1) m' (by simpa using h1)
     rwa [show i + (k + 1) = i + 1 + k by omega] at this
   have HE : ms.length = eA.length := by simpa using hn
   have Yp : ms.length = xs.length := by simpa using Xn
   unfold s5 at hv
   cases hb : ri st m v es with
   | none => simp [hb] at hv
   | some p =>
     obtain ⟨zi, Yq⟩ := p; simp only [hb] at hv; have go : ∀ {X1 : Lb → Prop} {c1 : Cz}, ky X1 w0 mu c1 zi a w → Fw c0 uN wb c1 zi w → (∀ l, X1 l → X l ∧ l ∉ xY m v) → jO c1 w lc (i + 1) eA xs Yq → Pass c c1 (fun l => (∃ j, l = .jw j) ∨ l.real = true) →
         ∃ c', ky (fun l => X l ∧ ∀ m' ∈ (m, v) :: ms, l ∉ xY m'.1 m'.2) w0 mu c' bf a w ∧ Fw c0 uN wb c' bf w ∧ Pass c c' (fun l => (∃ j, l = .jw j) ∨ l.real = true) := by
       intro X1 c1 g1 g2 g3 g4 g5; obtain ⟨c', k1, k2, k3⟩ := Ap ms (i + 1) eA xs Yq g1 g2 XX NR HE Yp N3 g4 hv; refine ⟨c', k1.mono (fun l hl => ⟨(g3 l hl.1).1, fun m' BJ => ?_⟩), k2, ⟨fun b l hl hb => k3.cI b l hl (g5.cI b l hl hb), fun b hb => k3.ok b (g5.ok b hb)⟩⟩; rcases List.mem_cons.1 BJ with rfl | BJ
       · exact (g3 l hl.1).2
       · exact hl.2 m' BJ
     have lj : xY m v = [] → zi = st → Yq = es → (∃ ag os, av = .val ag os) → ∃ c', ky (fun l => X l ∧ ∀ m' ∈ (m, v) :: ms, l ∉ xY m'.1 m'.2) w0 mu c' bf a w ∧ Fw c0 uN wb c' bf w ∧ Pass c c' (fun l => (∃ j, l = .jw j) ∨ l.real = true) := by
       rintro e1 rfl rfl ⟨ag, os, rfl⟩
       exact go h gQ (fun l hl => ⟨hl, by rw [e1]; simp⟩) hx ⟨fun _ _ _ h => h, fun _ h => h⟩
     cases v with
     | nb us => simp [eo] at re
     | agg cs =>
       have qO : ∀ u q r, (match fc uN m.ob cs with | some (os, u, r) => some (AV.val true os, cn u, cn u, r) | none => none) = some (av, u, q, r) → ∃ ag os, av = .val ag os := by
         intro u q r re
         cases hq : fc uN m.ob cs with
         | none => simp [hq] at re
         | some p =>
           obtain ⟨os, us, rs⟩ := p; simp only [hq, Option.some.injEq, Prod.mk.injEq] at re; exact ⟨_, _, re.1.symm⟩
       unfold eo at re
       cases m with
       | shr =>
         simp only [ri, Option.some.injEq, Prod.mk.injEq] at hb; exact lj rfl hb.1.symm hb.2.symm (qO _ _ _ re)
       | own =>
         simp only [ri, Option.some.injEq, Prod.mk.injEq] at hb; exact lj rfl hb.1.symm hb.2.symm (qO _ _ _ re)
       | pick _ =>
         simp only [ri, Option.some.injEq, Prod.mk.injEq] at hb; exact lj rfl hb.1.symm hb.2.symm (qO _ _ _ re)
       | io =>
         simp only [ri, Option.some.injEq, Prod.mk.injEq] at hb; exact lj rfl hb.1.symm hb.2.symm (qO _ _ _ re)
       | bQ =>
         simp only at re
         cases hq : fc uN true cs with
         | none => simp [hq] at re
         | some p =>
           obtain ⟨os, us, rs⟩ := p; simp only [hq] at re; obtain ⟨n6, vI⟩ := aI re; simp only [Option.some.injEq, Prod.mk.injEq] at vI; obtain ⟨rfl, _⟩ := vI; obtain ⟨As, l, rfl, ⟨us', rfl, hX⟩, eU⟩ := hx; unfold ri at hb; obtain ⟨hM, Jr, e2⟩ := Option.map_eq_some_iff.1 hb; injection e2 with e2 e3; subst e2 e3; obtain ⟨vs0, e0, hl0⟩ := S2; injection e0 with e0; subst e0; obtain ⟨c1, g1, g2, g3⟩ := Ao (i := i) (As := As) cs 0 us'.toList h gQ (fun k x v hk hv => hl0.2 k x v hk (by simpa using hv)) (fun k s j g vw hk => by
             have zZ := List.mem_of_getElem? hk; have Bg := List.all_eq_true.1 n6 _ zZ; unfold JG at Bg; rw [Bool.and_eq_true] at Bg
             cases hA : bd uN s j g with
             | none => rw [hA] at Bg; cases Bg.2
             | some A =>
               have J8 : vw = .full := by
                 cases vw with
                 | full => rfl
                 | «from» _ => cases Bg.1
                 | sub _ _ => cases Bg.1
               subst J8; rw [hA] at Bg; have ho : os[k]? = some (.own A) := by
                 have := Ef cs hq k hk; rw [hA] at this; have FH : A.own = true := Bg.2; simpa [FH] using this
               obtain ⟨B, u, k1, k2, k3, k4, k5⟩ := hX k A ho; refine ⟨A, B, u, rfl, by rw [Nat.zero_add]; exact k1, k2, k3, k4, ?_⟩; have : lc i k = c0.lc s j := by
                 rw [Oe]; show FK c0 cs[k]? = _; rw [hk]; rfl
               rw [← this, Nat.zero_add]; exact k5) Jr
           refine go g1 g2 (fun l hl => ⟨hl.1, fun hm => ?_⟩) ?_ ⟨fun b l hl => g3.cI b l (hl.elim (by rintro ⟨j, rfl⟩; simp) (by intro h; cases l <;> simp_all [Lb.real])), g3.ok⟩
           · obtain ⟨x, HG, DV⟩ := List.mem_filterMap.1 hm
             cases x with
             | ref s j g vw => simp only [Option.some.injEq] at DV; exact hl.2 s j g vw HG DV.symm
             | _ => cases DV
           · exact jO.pass eA (i + 1) (fun b k hk hb => g3.cI b _ (by simp) hb) (fun b k j hk hb => g3.cI b _ (by intro y; simp; omega) hb) xs _ (.inl g3.ok) eU
     | one cx =>
       cases cx with
       | ptr b g off =>
         unfold ri at hb
         cases es with
         | nil => simp at hb
         | cons e Yr => cases e with
           | io _ => simp at hb
           | bQ _ => simp at hb
           | box os =>
             simp only at hb
             split at hb
             · rename_i s0 Jm jy Mk; simp only [Option.some.injEq, Prod.mk.injEq] at hb; obtain ⟨rfl, rfl⟩ := hb; have Eg : ∃ os0, av = .box os0 := by
                 unfold eo at re; simp only at re
                 cases hq : dE uN b g with
                 | none => simp [hq] at re
                 | some cs =>
                   simp only [hq] at re
                   cases JT : fc uN true cs with
                   | none => simp [JT] at re
                   | some p =>
                     obtain ⟨w6, us, rs⟩ := p; simp only [JT] at re; obtain ⟨_, vI⟩ := aI re; simp only [Option.some.injEq, Prod.mk.injEq] at vI; exact ⟨_, vI.1.symm⟩
               obtain ⟨os0, rfl⟩ := Eg; obtain ⟨os1, l, e1, hB, eU⟩ := hx
               cases e1
               have hp := (gQ.m8 (v := x) S2); have e2 := hp.2.2 Jm Mk; have e3 : x = .pointer (some ⟨c.bx b, 0, none⟩) := by
                 obtain ⟨od, vs, ty, q1, _⟩ := hB; rw [e2] at q1 ⊢; injection q1 with q1; injection q1 with q1; injection q1 with q1 q2; rw [q2]
               obtain ⟨c1, g1, g2, g3⟩ := h.boxed jy Mk e3 hB; refine go g1 (gQ.trans g2) (fun l hl => ⟨hl.1, by simp [xY]; exact hl.2⟩) ?_ ⟨fun b l hl => g3.cI b l (hl.elim (by rintro ⟨j, rfl⟩; simp) (by intro h; cases l <;> simp_all [Lb.real])), g3.ok⟩; exact jO.pass eA (i + 1) (fun b k hk hb => g3.cI b _ (by constructor <;> simp; omega) hb) (fun b k j hk hb => g3.cI b _ (by constructor <;> simp; omega) hb) xs Yr (.inl g3.ok) eU
             · cases hb
       | ref s j g vw =>
         have qO : m ≠ .io → ∃ ag os, av = .val ag os := by
           intro hm; unfold eo at re
           cases m with
           | io => exact absurd rfl hm
           | shr =>
             cases hq : fc uN Pm.shr.ob [.ref s j g vw] with
             | none => simp [hq] at re
             | some p => obtain ⟨os, us, rs⟩ := p; simp only [hq, Option.some.injEq, Prod.mk.injEq] at re; exact ⟨_, _, re.1.symm⟩
           | bQ =>
             cases hq : fc uN Pm.bQ.ob [.ref s j g vw] with
             | none => simp [hq] at re
             | some p => obtain ⟨os, us, rs⟩ := p; simp only [hq, Option.some.injEq, Prod.mk.injEq] at re; exact ⟨_, _, re.1.symm⟩
           | own =>
             cases hq : fc uN Pm.own.ob [.ref s j g vw] with
             | none => simp [hq] at re
             | some p => obtain ⟨os, us, rs⟩ := p; simp only [hq, Option.some.injEq, Prod.mk.injEq] at re; exact ⟨_, _, re.1.symm⟩
           | pick pl =>
             cases hq : fc uN (Pm.pick pl).ob [.ref s j g vw] with
             | none => simp [hq] at re
             | some p => obtain ⟨os, us, rs⟩ := p; simp only [hq, Option.some.injEq, Prod.mk.injEq] at re; exact ⟨_, _, re.1.symm⟩
         cases m with
         | shr =>
           simp only [ri, Option.some.injEq, Prod.mk.injEq] at hb; exact lj rfl hb.1.symm hb.2.symm (qO (by simp))
         | bQ =>
           simp only [ri, Option.some.injEq, Prod.mk.injEq] at hb; exact lj rfl hb.1.symm hb.2.symm (qO (by simp))
         | own =>
           simp only [ri, Option.some.injEq, Prod.mk.injEq] at hb; exact lj rfl hb.1.symm hb.2.symm (qO (by simp))
         | pick _ =>
           simp only [ri, Option.some.injEq, Prod.mk.injEq] at hb; exact lj rfl hb.1.symm hb.2.symm (qO (by simp))
         | io =>
           unfold ri at hb; simp only at hb
           split at hb
           · rename_i B Yr A2 FH; simp only [Option.some.injEq, Prod.mk.injEq] at hb; obtain ⟨rfl, rfl⟩ := hb; have Eg : ∃ A0, av = .io A0 ∧ bd uN s j g = some A0 := by
               unfold eo at re
               cases vw with
               | full =>
                 cases hA : bd uN s j g with
                 | none => simp [hA] at re
                 | some A =>
                   simp only [hA] at re; obtain ⟨_, vI⟩ := aI re; simp only [Option.some.injEq, Prod.mk.injEq] at vI; exact ⟨A, vI.1.symm, rfl⟩
               | «from» _ => simp at re
               | sub _ _ => simp at re
             obtain ⟨A0, rfl, FA⟩ := Eg; obtain ⟨B', l, e1, hw, hlen, hO, eU⟩ := hx
             cases e1
             obtain ⟨A0', q1, q2, q3, q4, _⟩ := gQ.refs s j g A2 S2.2.1 FH; rw [FA] at q1; cases q1; have Yn : OwnAt c w (.cI i 0) (c.lc s j) B x := by
               rw [q4]; have : lc i 0 = c0.lc s j := by rw [Oe]; rfl
               rw [← this]; exact hO
             obtain ⟨g1, g2⟩ := h.io FH (hw.trans q2.symm) (hlen.trans q3.symm) Yn; have BR : ∀ b l, (∀ y, l ≠ .cI i y) → c.own b = some l → (c.et (rT i 0 s j) c.bx c.lc).own b = some l := by
               intro b l hl hb; show (c.own b).map _ = _; rw [hb]; simp only [Option.map_some, Option.some.injEq]
               cases l with
               | cI x y => simp only [rT]; rw [if_neg]; rintro ⟨rfl, _⟩; exact hl y rfl
               | _ => rfl
             refine go g1 (gQ.trans g2) (fun l hl => ⟨hl.1, by simp [xY]; exact hl.2⟩) ?_ ⟨fun b l hl => BR b l (hl.elim (by rintro ⟨j, rfl⟩; simp) (by intro h; cases l <;> simp_all [Lb.real])), fun b hb => Cz.pg.2 hb⟩; exact jO.pass eA (i + 1) (fun b k hk hb => BR b _ (by simp) hb) (fun b k j hk hb => BR b _ (by intro y; simp; omega) hb) xs Yr (.inl fun b hb => Cz.pg.2 hb) eU
           · cases hb
       | _ =>
         simp only [ri, Option.some.injEq, Prod.mk.injEq] at hb; refine lj rfl hb.1.symm hb.2.symm ?_; unfold eo at re; simp only at re
         split at re
         · simp only [Option.some.injEq, Prod.mk.injEq] at re; exact ⟨_, _, re.1.symm⟩
         · cases re
end Go.TM
namespace Go.TM
open Go Go.RowKit
def xd (d : Nat) : Lb → Lb
 | .jw j => .sp d j
 | l => l
theorem vQ (d : Nat) : yL (xd d) := ⟨fun l h => by cases l <;> simp [xd, Lb.real] at h ⊢⟩
theorem tX : (os ps : List OV) → bq (os ++ ps) = bq os ++ bq ps
 | [], ps => rfl
 | o :: os, ps => by simp [bq, tX os ps]
theorem ml : (os : List OV) → (bq os).length = os.length
 | [] => rfl
 | o :: os => by simp [bq, ml os]
theorem Ka (d g j : Nat) (o : OV) : ∃ x, bm d g j [o] = [x] := by
 cases o <;> exact ⟨_, rfl⟩
theorem lE.vals {c : Cz} {w : World} : (rs : List RV) → (j : Nat) → (vs : List Value) → lE c w j rs vs →
   ∃ lcs : Nat → Loc, (∀ k A, nth (bq (rs.flatMap RV.uk)) k = some (some A) → ∃ v, OwnAt c w (.jw (j + k)) (lcs (j + k)) A v) ∧ rs.length = vs.length ∧ (∀ d g, (kt d g j rs).length = rs.length) ∧
     ∀ (c2 : Cz) (hM : St) (d g : Nat), (∀ b, c.ok b → c2.ok b) → (∀ k, k < (rs.flatMap RV.uk).length → c2.lc d (j + k) = lcs (j + k)) → (∀ k A, k < (rs.flatMap RV.uk).length → bd hM d (j + k) g = some A → nth (bq (rs.flatMap RV.uk)) k = some (some A)) → g ≤ dv hM d →
       ∀ (k : Nat) (x : V) (v : Value), (kt d g j rs)[k]? = some x → vs[k]? = some v → wK c2 hM w x v
 | [], j, vs, h => by
   subst h; exact ⟨fun _ => .nil, fun k A hA => by simp [bq] at hA, rfl, fun _ _ => rfl, fun _ _ _ _ _ _ _ _ k x v hx => by simp [kt] at hx⟩
 | r :: rs, j, vs, h => by
   obtain ⟨v, l, us, rfl, hL, hR, hV⟩ : ∃ (v : Value) (l us : List Value), vs = v :: l ∧ bI c w .jw j r.uk us ∧ lE c w (j + r.uk.length) rs l ∧
       (∀ (c2 : Cz) (hM : St) (d g : Nat), fo c2 hM w (bm d g j r.uk) us → wK c2 hM w (JA d g j r) v) := by
     cases r with
     | one o =>
       obtain ⟨v, l, h1, h2, h3⟩ := h; refine ⟨v, l, [v], h1, h2, h3, fun c2 hM d g hl => ?_⟩; unfold JA; obtain ⟨x, hx⟩ := Ka d g j o; show wK c2 hM w (match bm d g j [o] with | [c] => .one c | _ => .one .bad) v; have hl : fo c2 hM w (bm d g j [o]) [v] := hl; rw [hx] at hl ⊢; exact hl.2 0 x v rfl rfl
     | agg os =>
       obtain ⟨us, l, h1, h2, h3⟩ := h; exact ⟨.agg us, l, us.toList, h1, h2, h3, fun c2 hM d g hl => ⟨us, rfl, hl⟩⟩
     | ptr os =>
       obtain ⟨v, l, h1, ⟨od, us, ty, _, _, _, g4⟩, h3⟩ := h; exact ⟨v, l, .slice none 0 0 :: us.toList, h1, ⟨_, rfl, g4⟩, h3, fun _ _ _ _ _ => trivial⟩
   obtain ⟨l1, a1, a2⟩ := bI.cells r.uk j us hL; obtain ⟨l2, b1, b2, b3, b4⟩ := lE.vals rs (j + r.uk.length) l hR; have Nl : bq ((r :: rs).flatMap RV.uk) = bq r.uk ++ bq (rs.flatMap RV.uk) := by
     rw [List.flatMap_cons, tX]
   refine ⟨fun k => if k < j + r.uk.length then l1 k else l2 k, fun k A hA => ?_, by simp [b2], fun d g => by simp [kt, b3], fun c2 hM d g gJ iA xU hg k x v' hx qc => ?_⟩
   · rw [Nl, mA, ml] at hA
     by_cases e : k < r.uk.length
     · rw [if_pos e] at hA; have := a1 k A hA; show ∃ v, OwnAt c w _ (if j + k < _ then _ else _) A v; rw [if_pos (by omega)]; exact this
     · rw [if_neg e] at hA; have := b1 _ A hA; rw [show j + r.uk.length + (k - r.uk.length) = j + k by omega] at this; show ∃ v, OwnAt c w _ (if j + k < _ then _ else _) A v; rw [if_neg (by omega)]; exact this
   · rw [Nl] at xU; rw [List.flatMap_cons, List.length_append] at iA xU
     cases k with
     | zero =>
       simp only [kt, List.getElem?_cons_zero, Option.some.injEq] at hx qc; subst hx qc; refine hV c2 hM d g (a2 c2 hM d g gJ (fun k hk => ?_) (fun k A hk hA => ?_) hg)
       · have : c2.lc d (j + k) = if j + k < j + r.uk.length then l1 (j + k) else l2 (j + k) := iA k (by omega)
         rwa [if_pos (by omega)] at this
       · have := xU k A (by omega) hA
         rwa [mA, ml, if_pos hk] at this
     | succ k =>
       refine b4 c2 hM d g gJ (fun k hk => ?_) (fun k A hk hA => ?_) hg k x v' (by simpa [kt] using hx) (by simpa using qc)
       · have : c2.lc d (j + (r.uk.length + k)) = if j + (r.uk.length + k) < j + r.uk.length then l1 (j + (r.uk.length + k)) else l2 (j + (r.uk.length + k)) := iA (r.uk.length + k) (by omega)
         rw [if_neg (by omega)] at this; rw [Nat.add_assoc]; exact this
       · rw [Nat.add_assoc] at hA; have := xU (r.uk.length + k) A (by omega) hA
         rwa [mA, ml, if_neg (by omega), Nat.add_sub_cancel_left] at this
def tk (d : Nat) : Lb → Lb
 | .jw 0 => .box d
 | .jw (j + 1) => .sp d (j + 1)
 | l => l
theorem vR (d : Nat) : yL (tk d) := ⟨fun l h => by
 cases l with
 | jw j => cases j <;> simp [tk, Lb.real] at h ⊢
 | _ => simp [tk, Lb.real] at h ⊢⟩
theorem ky.Ml {X : Lb → Prop} {w0 : World} {mu : Mu} {c : Cz} {st : St} {a : Act} {w : World} (h : ky X w0 mu c st a w) {d : Nat} {s0 : Sl} {os : List OV} {v : Value} (jy : nth st d = some s0)
   (hv : ∃ od us ty, v = .pointer (some ⟨od, 0, none⟩) ∧ c.own od = some (.jw 0) ∧ w.heap[od]? = some (.cells us ty (0, 0)) ∧ bI c w .jw 1 os us.toList) (hd : d < a.tmps.size) :
   ∃ c', ky X w0 mu c' (m6 (fun s => { s with v := .one (.ptr d (s.bg + 1) 0), box := some (bm d (s.ag + 1) 1 os), bg := s.bg + 1, aP := none :: bq os, ag := s.ag + 1 }) st d) (a.put (some d) v) w ∧
     Fw c st w c' (m6 (fun s => { s with v := .one (.ptr d (s.bg + 1) 0), box := some (bm d (s.ag + 1) 1 os), bg := s.bg + 1, aP := none :: bq os, ag := s.ag + 1 }) st d) w ∧ ∀ b l, l.real = true → c.own b = some l → c'.own b = some l := by
 obtain ⟨od, us, ty, rfl, gG, Kb, hL⟩ := hv; obtain ⟨lcs, g1, g2⟩ := bI.cells os 1 _ hL
 let c' := c.et (tk d) (fun s => if s = d then od else c.bx s) (fun s j => if s = d then lcs j else c.lc s j)
 let bf := m6 (fun s => { s with v := .one (.ptr d (s.bg + 1) 0), box := some (bm d (s.ag + 1) 1 os), bg := s.bg + 1, aP := none :: bq os, ag := s.ag + 1 }) st d
 have hn : ∀ s, nth bf s = if s = d then some { s0 with v := .one (.ptr d (s0.bg + 1) 0), box := some (bm d (s0.ag + 1) 1 os), bg := s0.bg + 1, aP := none :: bq os, ag := s0.ag + 1 } else nth st s := by
   intro s; show nth (m6 _ st d) s = _; rw [dF]
   by_cases e : s = d
   · subst e; rw [if_pos rfl, if_pos rfl, jy]; rfl
   · rw [if_neg e, if_neg e]
 have xW : dv bf d = s0.ag + 1 := by unfold dv; rw [hn]; simp
 have D9 : dv st d = s0.ag := by unfold dv; rw [jy]
 have Nn : gD bf d = s0.bg + 1 := by unfold gD; rw [hn]; simp
 have Of : gD st d = s0.bg := by unfold gD; rw [jy]
 have ht := vR d; have gQ : Fw c st w c' bf w := {
   stays := oK c w _ _ _
   refs := fun a' j' g' A' hg ew => by
     obtain ⟨sl, k1, k2, k3⟩ := bA ew; rw [hn] at k1
     by_cases e : a' = d
     · rw [if_pos e] at k1
       cases k1
       subst e; simp only at k2; omega
     · rw [if_neg e] at k1; exact ⟨A', ph k1 k2 k3, rfl, rfl, by show (if a' = d then _ else _) = _; rw [if_neg e], fun _ => ⟨rfl, fun _ _ _ _ => rfl⟩⟩
   zg := fun b' g' nc hg Fy => by
     obtain ⟨sl, k1, k2, k3⟩ := il Fy; rw [hn] at k1
     by_cases e : b' = d
     · rw [if_pos e] at k1
       cases k1
       subst e; simp only at k2; omega
     · rw [if_neg e] at k1; exact ⟨⟨nc, by unfold dE; rw [k1]; simp [k2, k3]⟩, by show (if b' = d then _ else _) = _; rw [if_neg e]⟩
   gA := fun a' => by
     by_cases e : a' = d
     · subst e; rw [xW, D9]; omega
     · unfold dv; rw [hn, if_neg e]; exact Nat.le_refl _
   gB := fun a' => by
     by_cases e : a' = d
     · subst e; rw [Nn, Of]; omega
     · unfold gD; rw [hn, if_neg e]; exact Nat.le_refl _
   gE := fun a' => by
     by_cases e : a' = d
     · subst e; unfold my; rw [hn, if_pos rfl, jy]; exact Nat.le_refl _
     · unfold my; rw [hn, if_neg e]; exact Nat.le_refl _ }
 have Ea : ∀ k A, bd bf d (1 + k) (s0.ag + 1) = some A → nth (bq os) k = some (some A) := by
   intro k A hA; obtain ⟨sl, k1, k2, k3⟩ := bA hA; rw [hn, if_pos rfl] at k1
   cases k1
   rw [show 1 + k = k + 1 by omega] at k3; exact k3
 have sF : ∀ t, eF c' bf w (cz bf t) ((a.put (some d) (.pointer (some ⟨od, 0, none⟩))).eval (.tmp t)) := by
   intro t; rw [eval_put]
   by_cases e : t = d
   · subst e; rw [if_pos ⟨rfl, hd⟩]; have : cz bf t = .one (.ptr t (s0.bg + 1) 0) := by unfold cz; rw [hn, if_pos rfl]
     rw [this]; refine ⟨rfl, by rw [Nn]; exact Nat.le_refl _, fun cs _ => ?_⟩; show _ = Value.pointer (some ⟨(if t = t then od else c.bx t), 0, none⟩); rw [if_pos rfl]
   · rw [if_neg (by rintro ⟨e2, _⟩; exact e (Option.some.inj e2).symm)]; have : cz bf t = cz st t := by unfold cz; rw [hn, if_neg e]
     rw [this]; exact gQ.m8 (h.fp t)
 refine ⟨c', ⟨sF, fun s sl cs hX hs hb => ?_, fun s j sl A hX hs hA => ?_, fun b l hb => ?_, fun b hb h1 => h.free b hb (by unfold Cz.ok at *; simpa [c', Cz.et] using h1), h.kept, h.old, by simpa [Act.put] using h.plain, fun p hp => gQ.ed (h.ed p hp)⟩, gQ, fun b l hl hb => ?_⟩
 case refine_4 =>
   show (c.own b).map (tk d) = _; rw [hb]; simp [(vR d).other l (.inr hl)]
 · rw [hn] at hs
   by_cases e : s = d
   · subst e; rw [if_pos rfl] at hs
     cases hs
     simp only [Option.some.injEq] at hb; subst hb; refine ⟨?_, us, ty, by show w.heap[if s = s then od else c.bx s]? = _; rw [if_pos rfl]; exact Kb, ?_⟩
     · show (c.own (if s = s then od else c.bx s)).map (tk s) = some (.box s); rw [if_pos rfl, gG]; rfl
     · exact g2 c' bf s (s0.ag + 1) (fun b hb => Cz.pg.2 hb) (fun k _ => by show (if s = s then _ else _) = _; rw [if_pos rfl]) (fun k A _ hA => Ea k A hA) (by rw [xW]; exact Nat.le_refl _)
   · rw [if_neg e] at hs; exact (h.boxes s sl cs hX hs hb).et ht gQ (by show (if s = d then _ else _) = _; rw [if_neg e])
 · rw [hn] at hs
   by_cases e : s = d
   · subst e; rw [if_pos rfl] at hs
     cases hs
     cases j with
     | zero => simp [nth] at hA
     | succ j =>
       obtain ⟨v', qc⟩ := g1 j A hA; rw [show 1 + j = j + 1 by omega] at qc; exact qc.arr (by simp) (by simp [tk])
   · rw [if_neg e] at hs; exact (h.aP s j sl A hX hs hA).et ht (by simp [e])
 · simp only [c', Cz.et, Option.map_eq_some_iff] at hb; obtain ⟨k, hk, e⟩ := hb; obtain ⟨h1, h2⟩ := h.owned b k hk; refine ⟨h1, h2.imp (fun e2 => ?_) id⟩; subst e2; rw [← e]; rfl
theorem CN {st : St} {d : Nat} {outs : List RV} (h : ∀ os, outs ≠ [.ptr os]) : uq st (some d) outs = match nth st d with
   | some s => some (m6 (fun sl => { sl with v := (match kt d (s.ag + 1) 0 outs with | [v] => v | vs => .nb vs), aP := bq (outs.flatMap RV.uk), ag := s.ag + 1 }) st d)
   | none => none := by
 unfold uq; simp only
 cases nth st d with
 | none => rfl
 | some s =>
   cases outs with
   | nil => rfl
   | cons r l => cases l with
     | cons _ _ => cases r <;> rfl
     | nil => cases r with
       | one o => rfl
       | agg os => rfl
       | ptr os => exact absurd rfl (h os)
theorem ky.laid {X : Lb → Prop} {w0 : World} {mu : Mu} {c : Cz} {st : St} {a : Act} {w : World} (h : ky X w0 mu c st a w) {d : Option Nat} {outs : List RV} {v : Value} (hv : uJ c w outs v) {bf : St} (hl : uq st d outs = some bf) (hd : ∀ k, d = some k → k < a.tmps.size) :
   ∃ c', ky X w0 mu c' bf (a.put d v) w ∧ Fw c st w c' bf w ∧ ∀ b l, l.real = true → c.own b = some l → c'.own b = some l := by
 cases d with
 | none =>
   cases outs with
   | nil =>
     simp only [uq, Option.some.injEq] at hl; subst hl; exact ⟨c, h, Fw.refl c st w, fun _ _ _ h => h⟩
   | cons _ _ => simp [uq] at hl
 | some d =>
   by_cases hp : ∃ os, outs = [.ptr os]
   · obtain ⟨os, rfl⟩ := hp; unfold uq at hl; simp only at hl
     cases jy : nth st d with
     | none => simp [jy] at hl
     | some s0 =>
       simp only [jy, Option.some.injEq] at hl; subst hl; refine h.Ml jy ?_ (hd d rfl); rcases hv with ⟨r, h1, h2⟩ | ⟨h1, _⟩
       · simp only [List.cons.injEq, and_true] at h1; subst h1; obtain ⟨v', l, e1, h3, _⟩ := h2; simp only [List.cons.injEq] at e1; rw [e1.1]; exact h3
       · exact absurd rfl h1
   rw [CN (fun os e => hp ⟨os, e⟩)] at hl
   cases jy : nth st d with
   | none => simp [jy] at hl
   | some s0 =>
     simp only [jy, Option.some.injEq] at hl; obtain ⟨vs, hR, hVV⟩ : ∃ vs, lE c w 0 outs vs ∧ ∀ (c2 : Cz) (hM : St) (g : Nat), (kt d g 0 outs).length = vs.length → (∀ (k : Nat) (x : V) (u : Value), (kt d g 0 outs)[k]? = some x → vs[k]? = some u → wK c2 hM w x u) →
         eF c2 hM w (match kt d g 0 outs with | [v] => v | vs => .nb vs) v := by
       rcases hv with ⟨r, rfl, h2⟩ | ⟨h1, vs, rfl, h2⟩
       · refine ⟨[v], h2, fun c2 hM g hlen uO => ?_⟩; exact D3 (uO 0 _ v rfl rfl)
       · refine ⟨vs.toList, h2, fun c2 hM g hlen uO => ?_⟩; have Og : eF c2 hM w (.nb (kt d g 0 outs)) (.tuple vs) := ⟨vs, rfl, by simpa using hlen, fun i x y hx hy => uO i x y hx (by simpa using hy)⟩
         split
         · rename_i x hx; obtain ⟨_, _, _, b3, _⟩ := lE.vals outs 0 vs.toList h2; have := b3 d g; rw [hx] at this; exact absurd this.symm h1
         · exact Og
     obtain ⟨lcs, g1, g2, g3, g4⟩ := lE.vals outs 0 vs hR
     let c' := c.et (xd d) c.bx (fun s j => if s = d then lcs j else c.lc s j)
     let V0 := (match kt d (s0.ag + 1) 0 outs with | [v] => v | vs => .nb vs)
     have hn : ∀ s, nth bf s = if s = d then some { s0 with v := V0, aP := bq (outs.flatMap RV.uk), ag := s0.ag + 1 } else nth st s := by
       intro s; rw [← hl, dF]
       by_cases e : s = d
       · subst e; rw [if_pos rfl, if_pos rfl, jy]; rfl
       · rw [if_neg e, if_neg e]
     have xW : dv bf d = s0.ag + 1 := by unfold dv; rw [hn]; simp
     have D9 : dv st d = s0.ag := by unfold dv; rw [jy]
     have ht := vQ d; have gQ : Fw c st w c' bf w := {
       stays := oK c w _ _ _
       refs := fun a' j' g' A' hg ew => by
         obtain ⟨sl, k1, k2, k3⟩ := bA ew; rw [hn] at k1
         by_cases e : a' = d
         · rw [if_pos e] at k1
           cases k1
           subst e; simp only at k2; omega
         · rw [if_neg e] at k1; exact ⟨A', ph k1 k2 k3, rfl, rfl, by show (if a' = d then _ else _) = _; rw [if_neg e], fun _ => ⟨rfl, fun _ _ _ _ => rfl⟩⟩
       zg := fun b' g' nc hg Fy => by
         obtain ⟨sl, k1, k2, k3⟩ := il Fy; rw [hn] at k1
         by_cases e : b' = d
         · rw [if_pos e] at k1
           cases k1
           subst e; exact ⟨⟨nc, by unfold dE; rw [jy]; simp at k2 k3; simp [k2, k3]⟩, rfl⟩
         · rw [if_neg e] at k1; exact ⟨⟨nc, by unfold dE; rw [k1]; simp [k2, k3]⟩, rfl⟩
       gA := fun a' => by
         by_cases e : a' = d
         · subst e; rw [xW, D9]; omega
         · unfold dv; rw [hn, if_neg e]; exact Nat.le_refl _
       gB := fun a' => by
         by_cases e : a' = d
         · subst e; unfold gD; rw [hn, if_pos rfl, jy]; exact Nat.le_refl _
         · unfold gD; rw [hn, if_neg e]; exact Nat.le_refl _
       gE := fun a' => by
         by_cases e : a' = d
         · subst e; unfold my; rw [hn, if_pos rfl, jy]; exact Nat.le_refl _
         · unfold my; rw [hn, if_neg e]; exact Nat.le_refl _ }
     have Ea : ∀ k A, bd bf d k (s0.ag + 1) = some A → nth (bq (outs.flatMap RV.uk)) k = some (some A) := by
       intro k A hA; obtain ⟨sl, k1, k2, k3⟩ := bA hA; rw [hn, if_pos rfl] at k1
       cases k1
       exact k3
     have sF : ∀ t, eF c' bf w (cz bf t) ((a.put (some d) v).eval (.tmp t)) := by
       intro t; rw [eval_put]
       by_cases e : t = d
       · subst e; rw [if_pos ⟨rfl, hd t rfl⟩]; have : cz bf t = V0 := by unfold cz; rw [hn, if_pos rfl]
         rw [this]; refine hVV c' bf (s0.ag + 1) (by rw [g3, g2]) (g4 c' bf t (s0.ag + 1) (fun b hb => Cz.pg.2 hb) (fun k _ => ?_) (fun k A _ hA => Ea k A (by simpa using hA)) (by rw [xW]; exact Nat.le_refl _)); show (if t = t then _ else _) = _; rw [if_pos rfl]
       · rw [if_neg (by rintro ⟨e2, _⟩; exact e (Option.some.inj e2).symm)]; have : cz bf t = cz st t := by unfold cz; rw [hn, if_neg e]
         rw [this]; exact gQ.m8 (h.fp t)
     refine ⟨c', ⟨sF, fun s sl cs hX hs hb => ?_, fun s j sl A hX hs hA => ?_, fun b l hb => ?_, fun b hb h1 => h.free b hb (by unfold Cz.ok at *; simpa [c', Cz.et] using h1), h.kept, h.old, by simpa [Act.put] using h.plain, fun p hp => gQ.ed (h.ed p hp)⟩, gQ, fun b l hl hb => ?_⟩
     case refine_4 =>
       show (c.own b).map (xd d) = _; rw [hb]; simp [(vQ d).other l (.inr hl)]
     · rw [hn] at hs
       by_cases e : s = d
       · subst e; rw [if_pos rfl] at hs
         cases hs
         exact (h.boxes s s0 cs hX jy hb).et ht gQ rfl
       · rw [if_neg e] at hs; exact (h.boxes s sl cs hX hs hb).et ht gQ rfl
     · rw [hn] at hs
       by_cases e : s = d
       · subst e; rw [if_pos rfl] at hs
         cases hs
         obtain ⟨v', qc⟩ := g1 j A hA; exact qc.arr (by simp) (by simp [xd])
       · rw [if_neg e] at hs; exact (h.aP s j sl A hX hs hA).et ht (by simp [e])
     · simp only [c', Cz.et, Option.map_eq_some_iff] at hb; obtain ⟨k, hk, e⟩ := hb; obtain ⟨h1, h2⟩ := h.owned b k hk; refine ⟨h1, h2.imp (fun e2 => ?_) id⟩; subst e2; rw [← e]; rfl
end Go.TM
