/- A ring's life, drawn and played by the reference. -/
import Derived.Test.YtlgnmloddedbaaaGreatBPRingL
set_option linter.unusedSimpArgs false
set_option linter.unusedVariables false
namespace Go.TM
open Go
theorem Ms {v : Int} (h : (v, ()) ∈ [((1 : Int), ()), (1, ()), (1, ()), (2, ()), (2, ()), (2, ()), (2, ()), (2, ()), (2, ()), (3, ()), (3, ()), (4, ()), (5, ()), (6, ()), (7, ()), (7, ())]) : 1 ≤ v ∧ v ≤ 7 := by
 simp only [List.mem_cons, Prod.mk.injEq, and_true, List.not_mem_nil, or_false] at h; omega
theorem QL (code : List (Int × Unit)) (at_ qK : Int) (h : fC code at_) : ∃ v HL s', mf code at_ qK = some (v, code, HL, s', ()) ∧ ByteArray.size v ≤ 3 ∧ fC code HL := by
 obtain ⟨v, a1, s1, e1, hv, d1⟩ := O3 code at_ qK [((ByteArray.mk #[97, 110, 110]), ()), ((ByteArray.mk #[98, 111, 98]), ()), ((ByteArray.mk #[99, 121]), ()), ((ByteArray.mk #[100, 52]), ()), ((ByteArray.mk #[101, 118, 101]), ())] h (by decide); refine ⟨v, a1, s1, ?_, ?_, d1⟩
 · unfold mf; rw [e1]; rfl
 · simp only [List.mem_cons, Prod.mk.injEq, and_true, List.not_mem_nil, or_false] at hv; rcases hv with rfl | rfl | rfl | rfl | rfl <;> decide
theorem O7 (code : List (Int × Unit)) {n : Nat} {c : Int} {ms : cP} {w : bj} (h : ea n c ms w) (hn : n ≤ 1000) {v id b : Int} (hv : 1 ≤ v ∧ v ≤ 7) (rR : (id, ()) ∈ ms) (hb : 0 ≤ b) (a s : Int) (d : fC code a) :
   ∃ (e : lT) (a' s' : Int), jf code a s w.1 w.2.1 w.2.2.1 w.2.2.2.1 w.2.2.2.2.1 w.2.2.2.2.2.1 0 0 0 0 ByteArray.empty v id b 0 ByteArray.empty = some (e.1, e.2.1, e.2.2.1, e.2.2.2.1, e.2.2.2.2.1, code, a', s', w.1, w.2.1, w.2.2.1, w.2.2.2.1, w.2.2.2.2.1, w.2.2.2.2.2.1, ()) ∧ A5 ms e ∧ fC code a' := by
 have hf := h.vK; unfold jf
 by_cases k2 : v = 2
 · obtain ⟨e, he, a', s', b', rfl, d', lk⟩ := ev (round := gD) (x := (code, a, s, w.1, w.2.1, w.2.2.1, w.2.2.2.1, w.2.2.2.2.1, w.2.2.2.2.2.1, (0 : Int), (0 : Int), (0 : Int), (0 : Int), ByteArray.empty, v, id, b, (0 : Int), ByteArray.empty, ((0 : Nat) : Int), ())) w.2.2.2.1.length
     (fun k x => ∃ a s b, x = (code, a, s, w.1, w.2.1, w.2.2.1, w.2.2.2.1, w.2.2.2.2.1, w.2.2.2.2.2.1, (0 : Int), (0 : Int), (0 : Int), (0 : Int), ByteArray.empty, v, id, b, (0 : Int), ByteArray.empty, ((k : Nat) : Int), ()) ∧ fC code a ∧ 0 ≤ b)
     (fun e => ∃ a s b, e = .inl (code, a, s, w.1, w.2.1, w.2.2.1, w.2.2.2.1, w.2.2.2.2.1, w.2.2.2.2.2.1, (0 : Int), (0 : Int), (0 : Int), (0 : Int), ByteArray.empty, v, id, b, (0 : Int), ByteArray.empty, ()) ∧ fC code a ∧ 0 ≤ b) (by
       rintro x ⟨a, s, b, rfl, d, hb⟩
       exact ⟨_, by simp only [gD, nX, aD, cond_false], a, s, b, rfl, d, hb⟩) (by
       rintro k x hk ⟨a, s, b, rfl, d, hb⟩
       simp only [gD, nX, ax hk, ak, cond_true, au, List.getElem?_eq_getElem hk, Option.bind_some, aG (show k < 4611686018427387904 by omega)]
       cases (w.2.2.2.1[k]).2.1
       · exact .inr ⟨_, rfl, a, s, b, rfl, d, hb⟩
       · obtain ⟨o, a1, s1, e1, d1⟩ := KH code a s 4 d (by omega); simp only [e1, Option.bind_some, cond_true]
         cases o
         · exact .inr ⟨_, rfl, a1, s1, ((k : Nat) : Int), rfl, d1, by omega⟩
         · exact .inr ⟨_, rfl, a1, s1, b, rfl, d1, hb⟩) ⟨a, s, b, rfl, d, hb⟩
   have he : aE gD (code, a, s, w.1, w.2.1, w.2.2.1, w.2.2.2.1, w.2.2.2.2.1, w.2.2.2.2.2.1, (0 : Int), (0 : Int), (0 : Int), (0 : Int), ByteArray.empty, v, id, b, (0 : Int), ByteArray.empty, (0 : Int), ()) = _ := he; refine ⟨(v, id, b', 0, ByteArray.empty, ()), a', s', ?_, ⟨hv, rR, lk, fun h1 => ?_, fun _ => ⟨rfl, rfl⟩⟩, d'⟩
   · simp only [af k2, cond_true, he, cg, Option.bind_some, aj (show ¬ v = 1 by omega), cond_false]
   · have h1 : v = 1 := h1; omega
 by_cases k1 : v = 1
 · obtain ⟨l, a1, s1, e1, l0, l1, d1⟩ := qt code a s 2 d (by omega); obtain ⟨t, a2, s2, e2, ht, d2⟩ := QL code a1 s1 d1; refine ⟨(v, id, b, 1 + l, t, ()), a2, s2, ?_, ⟨hv, rR, hb, fun _ => ⟨by show 1 ≤ 1 + l ∧ 1 + l ≤ 2; omega, by show ByteArray.size t ≤ 60; omega⟩, fun h1 => absurd k1 h1⟩, d2⟩; simp only [aj k2, af k1, cond_false, cond_true, e1, e2, Option.bind_some]; rw [fO (show -9223372036854775808 ≤ 1 + l by omega) (by omega)]
 · refine ⟨(v, id, b, 0, ByteArray.empty, ()), a, s, ?_, ⟨hv, rR, hb, fun h1 => absurd h1 k1, fun _ => ⟨rfl, rfl⟩⟩, d⟩; simp only [aj k2, aj k1, cond_false]
theorem VI (code : List (Int × Unit)) (a s : Int) (d : fC code a) {n : Nat} {c : Int} {ms : cP} {w : bj} (h : ea n c ms w) (hn : n ≤ 1000) :
   ∃ (e : lT) (a' s' : Int), iV code a s w.1 w.2.1 w.2.2.1 w.2.2.2.1 w.2.2.2.2.1 w.2.2.2.2.2.1 = some (e.1, e.2.1, e.2.2.1, e.2.2.2.1, e.2.2.2.2.1, code, a', s', w.1, w.2.1, w.2.2.1, w.2.2.2.1, w.2.2.2.2.1, w.2.2.2.2.2.1, ()) ∧ A5 ms e ∧ fC code a' := by
 obtain ⟨q0, q1, q2⟩ := h.A4; have hr := h.ring.2.1.1; have Z1 := h.self.2; obtain ⟨v, a1, s1, e1, hv, d1⟩ := QI code a s [((1 : Int), ()), (1, ()), (1, ()), (2, ()), (2, ()), (2, ()), (2, ()), (2, ()), (2, ()), (3, ()), (3, ()), (4, ()), (5, ()), (6, ()), (7, ()), (7, ())] d (by decide); obtain ⟨i, a2, s2, e2, i0, i1, d2⟩ := qt code a1 s1 ((List.length w.2.1 : Nat) : Int) d1 (by rw [Z1]; omega); obtain ⟨b, a3, s3, e3, b0, b1, d3⟩ := qt code a2 s2 30 d2 (by omega); obtain ⟨i, rfl⟩ := Int.eq_ofNat_of_zero_le i0; have hi : i < w.2.1.length := by omega
 obtain ⟨e, a', s', e4, he, d'⟩ := O7 code h hn (Ms hv) (show ((w.2.1[i]).1, ()) ∈ ms by rw [← Z1]; exact List.getElem_mem hi) b0 a3 s3 d3; refine ⟨e, a', s', ?_, he, d'⟩; unfold iV; simp only [e1, e2, e3, Option.bind_some, ak, cond_true, au, List.getElem?_eq_getElem hi, cC]; exact e4
end Go.TM
set_option linter.unusedSimpArgs false
set_option linter.unusedVariables false
namespace Go.TM
open Go
theorem EH {c : Int} {ms : cP} (h : HM c ms) : lK c ms := ⟨⟨h.wW, h.id2⟩, ⟨h.some_, h.len⟩, fun k hk _ => ⟨by have := h.rising.2.1 k hk; omega, fun h0 => h.rising.2.2 (k - 1) k (by omega) hk (by omega)⟩⟩
theorem JP {c : Int} {ms : cP} (h : lK c ms) {id : Int} (rR : (id, ()) ∈ ms) : oE (lf c ms id) := {
 ring := h
 mem := rR
 items := fun k hk => by cases hk
 texts := ⟨Nat.zero_le _, rfl⟩
 MK := fun j hj => by cases hj
 short := fun j hj => by cases hj
 round := ⟨Int.le_refl _, show (0 : Int) ≤ 1000000000 by decide⟩
 seen := ⟨Int.le_refl _, show (0 : Int) ≤ 60 by decide⟩
 line := ⟨Int.le_refl _, Int.natCast_nonneg _⟩
 heard := ⟨Int.le_refl _, Int.natCast_nonneg _⟩
 last := .inl ⟨rfl, rfl, rfl, rfl, rfl, rfl⟩ }
def zg (c : Int) : jG := (c, 1, 0, 0, 0, [], ())
theorem HP {c : Int} {ms : cP} (h : lK c ms) : yX (zg c) := ⟨h.1, ⟨show (1 : Int) ≤ 1 by decide, show (1 : Int) ≤ 1000000000 by decide⟩, ⟨show (0 : Int) ≤ 0 by decide, show (0 : Int) ≤ 60 by decide⟩, ⟨show (0 : Int) ≤ 0 by decide, show (0 : Int) ≤ 0 by decide⟩, ⟨show (0 : Int) ≤ 0 by decide, show (0 : Int) ≤ 5 by decide⟩, Nat.zero_le _, fun k hk => by cases hk⟩
def cQ (c : Int) (ms : cP) (a : Int) : bj := (c, ms, ms.map fun m => lf c ms m.1, [fD a (zg c)], List.replicate ms.length ([], ()), [], ())
theorem AO {c : Int} {ms : cP} (hr : lK c ms) : fQ c ms = some ((cQ c ms (ms[0]'hr.2.1.1).1).1, (cQ c ms (ms[0]'hr.2.1.1).1).2.1, (cQ c ms (ms[0]'hr.2.1.1).1).2.2.1, (cQ c ms (ms[0]'hr.2.1.1).1).2.2.2.1, (cQ c ms (ms[0]'hr.2.1.1).1).2.2.2.2.1, (cQ c ms (ms[0]'hr.2.1.1).1).2.2.2.2.2.1, true, ()) := by
 have hl := hr.2.1.2; have Lf := hr.2.1.1; have h : ms.length ≤ 1048576 := by omega
 have r1 := (ld c ms h).1; rw [(ld c ms h).2.2.2 hr] at r1; have l1 := cX (round := eD) (e := .inl (c, ms, (0 : Int), [], [], [], [], [], c, ms, ms.map fun m => lf c ms m.1, [], List.replicate ms.length ([], ()), [], ())) ms.length (fun k => (c, ms, (0 : Int), [], [], [], [], [], c, ms, (ms.take k).map fun m => lf c ms m.1, [], List.replicate k ([], ()), [], ((k : Nat) : Int), ())) (by
   simp only [eD, je, aD, cond_false, List.take_length]) (fun k hk => by
   simp only [eD, je, ax hk, ak, cond_true, au, List.getElem?_eq_getElem hk, Option.bind_some, FN c ms ms[k].1 h r1 (List.getElem_mem hk), List.length_map, List.length_take, List.length_replicate, Nat.min_eq_left (Nat.le_of_lt hk), aF (show (k + 1) * 208 ≤ lim by unfold lim; omega), aF (show (k + 1) * 24 ≤ lim by unfold lim; omega), aG (show k < 4611686018427387904 by omega)]; rw [map_take _ _ hk, List.replicate_succ']; rfl)
 have l1 : aE eD (c, ms, (0 : Int), [], [], [], [], [], c, ms, [], [], [], [], (0 : Int), ()) = _ := l1; unfold fQ kY; simp only [r1, Option.bind_some, Bool.not_true, cond_false, cond_true, aF (show (0 + ms.length) * 8 ≤ lim by unfold lim; omega), List.nil_append, l1, cg, List.getElem?_eq_getElem (show 0 < ms.length by omega)]; rfl
theorem Da {c : Int} {ms : cP} (hr : lK c ms) (a : Int) : ea 0 c ms (cQ c ms a) := {
 ring := hr
 self := ⟨rfl, rfl⟩
 len := by show (ms.map _).length = _; rw [List.length_map]
 ids := fun k hk hm => by
   have hk : k < (ms.map fun m => lf c ms m.1).length := hk; show ((ms.map fun m => lf c ms m.1)[k]).1 = _; rw [List.getElem_map]; rfl
 m8 := fun m hm => by
   have hm : m ∈ ms.map fun m => lf c ms m.1 := hm
   obtain ⟨x, hx, rfl⟩ := List.mem_map.1 hm; exact ⟨JP hr hx, rfl, rfl⟩
 uc := fun f hf => by
   have hf : f ∈ [fD a (zg c)] := hf; rw [List.mem_singleton] at hf; subst hf; exact C7 (HP hr)
 vK := by show 1 ≤ _; omega
 heard := by show (List.replicate _ _).length = _; rw [List.length_replicate]
 list := fun x hx => by
   have hx : x ∈ List.replicate ms.length (([], ()) : aK × Unit) := hx; rw [List.mem_replicate] at hx; rw [hx.2]; exact Nat.zero_le _
 said := ⟨fun x hx => (by cases hx), Nat.zero_le _⟩ }
theorem HQ {c : Int} {ms : cP} (hr : lK c ms) : qL 1 0 ms (cQ c ms (ms[0]'hr.2.1.1).1) := {
 uc := fun f hf => by
   have hf : f ∈ [fD (ms[0]'hr.2.1.1).1 (zg c)] := hf; rw [List.mem_singleton] at hf; subst hf; exact ⟨fun _ => ⟨1, Nat.le_refl _, Nat.le_refl _, rfl, ⟨ms[0]'hr.2.1.1, by rw [Nat.sub_self, Nat.zero_mod]; exact List.getElem?_eq_getElem hr.2.1.1, rfl⟩, fun _ => rfl⟩, fun e => (by cases e)⟩
 kT := fun k hk => by
   have hk : k < (ms.map fun m => lf c ms m.1).length := hk; show sm 1 0 ms.length k (ms.map fun m => lf c ms m.1)[k]; rw [List.getElem_map]; exact ⟨fun x hx => (by cases hx), 0, rfl, by omega, fun r _ _ => by omega, .inl ⟨rfl, rfl, rfl, rfl, rfl, rfl⟩⟩
 said := fun x hx => by cases hx }
theorem QM (code : List (Int × Unit)) (h : code.length ≤ 1048576) : ∃ n : Nat, oU code = some (((n : Nat) : Int), ()) ∧ n ≤ 89 := by
 have e : Int.tdiv ((List.length code : Nat) : Int) 4 = ((code.length / 4 : Nat) : Int) := rfl; unfold oU; rw [e, fO (show -9223372036854775808 ≤ ((code.length / 4 : Nat) : Int) by omega) (by omega), fO (show -9223372036854775808 ≤ 24 + ((code.length / 4 : Nat) : Int) by omega) (by omega)]
 by_cases g : 89 < 24 + code.length / 4
 · rw [af (show (89 : Int) < 24 + ((code.length / 4 : Nat) : Int) by omega)]; exact ⟨89, rfl, Nat.le_refl _⟩
 · rw [aj (show ¬ (89 : Int) < 24 + ((code.length / 4 : Nat) : Int) by omega)]; exact ⟨24 + code.length / 4, rfl, by omega⟩
theorem QN (code : List (Int × Unit)) (a s : Int) (d : fC code a) (hc : code.length ≤ 1048576) : ∃ (c : Int) (ms : cP) (di : List lT) (a' s' : Int), mm code a s code = some (c, ms, di, code, a', s', ()) ∧ HM c ms ∧ di.length ≤ 89 ∧ (∀ e ∈ di, A5 ms e) ∧ fC code a' := by
 obtain ⟨c, ms, a1, s1, e1, hv, _, _, d1⟩ := JM code a s d; have hr := EH hv; obtain ⟨n, e2, hn⟩ := QM code hc; obtain ⟨e, he, a', s', di, rfl, q1, q2, d'⟩ := ev (round := gH) (x := (code, a1, s1, code, (0 : Int), [], [], c, ms, [], (cQ c ms (ms[0]'hr.2.1.1).1).1, (cQ c ms (ms[0]'hr.2.1.1).1).2.1, (cQ c ms (ms[0]'hr.2.1.1).1).2.2.1, (cQ c ms (ms[0]'hr.2.1.1).1).2.2.2.1, (cQ c ms (ms[0]'hr.2.1.1).1).2.2.2.2.1, (cQ c ms (ms[0]'hr.2.1.1).1).2.2.2.2.2.1, ((0 : Nat) : Int), ())) n
   (fun k x => ∃ (a s : Int) (di : List lT) (w : bj), x = (code, a, s, code, (0 : Int), [], [], c, ms, di, w.1, w.2.1, w.2.2.1, w.2.2.2.1, w.2.2.2.2.1, w.2.2.2.2.2.1, ((k : Nat) : Int), ()) ∧ ea k c ms w ∧ di.length = k ∧ (∀ e ∈ di, A5 ms e) ∧ fC code a)
   (fun e => ∃ (a s : Int) (di : List lT), e = .inl (code, a, s, (0 : Int), [], [], c, ms, di, ()) ∧ di.length = n ∧ (∀ e ∈ di, A5 ms e) ∧ fC code a) (by
     rintro x ⟨a, s, di, w, rfl, hw, q1, q2, d⟩
     exact ⟨_, by simp only [gH, od, e2, Option.bind_some, aD, cond_false], a, s, di, rfl, q1, q2, d⟩) (by
     rintro k x hk ⟨a, s, di, w, rfl, hw, q1, q2, d⟩
     obtain ⟨e, a1, s1, e3, he, d1⟩ := VI code a s d hw (by omega); obtain ⟨b, w', e4, VS, _⟩ := KI hw (by omega) he; refine .inr ⟨(code, a1, s1, code, (0 : Int), [], [], c, ms, di ++ [e], w'.1, w'.2.1, w'.2.2.1, w'.2.2.2.1, w'.2.2.2.2.1, w'.2.2.2.2.2.1, ((k + 1 : Nat) : Int), ()), ?_, a1, s1, di ++ [e], w', rfl, VS, by rw [List.length_append, q1]; rfl, fun x hx => ?_, d1⟩
     · simp only [gH, od, e2, Option.bind_some, ax hk, cond_true, e3, e4, aF (show (di.length + 1) * 48 ≤ lim by rw [q1]; unfold lim; omega), aG (show k < 4611686018427387904 by omega)]
     · rcases List.mem_append.1 hx with hx | hx
       · exact q2 x hx
       · rw [List.mem_singleton] at hx; subst hx; exact he) ⟨a1, s1, [], _, rfl, Da hr _, rfl, fun e he => (by cases he), d1⟩
 have he : aE gH (code, a1, s1, code, (0 : Int), [], [], c, ms, [], (cQ c ms (ms[0]'hr.2.1.1).1).1, (cQ c ms (ms[0]'hr.2.1.1).1).2.1, (cQ c ms (ms[0]'hr.2.1.1).1).2.2.1, (cQ c ms (ms[0]'hr.2.1.1).1).2.2.2.1, (cQ c ms (ms[0]'hr.2.1.1).1).2.2.2.2.1, (cQ c ms (ms[0]'hr.2.1.1).1).2.2.2.2.2.1, (0 : Int), ()) = _ := he; refine ⟨c, ms, di, a', s', ?_, hv, by omega, q2, d'⟩; unfold mm; simp only [e1, Option.bind_some, AO hr, he, cg]
theorem O8 {n : Nat} {c : Int} {ms : cP} {w : bj} (h : ea n c ms w) (hn : n ≤ 1000) : tM w.1 w.2.1 w.2.2.1 w.2.2.2.1 w.2.2.2.2.1 w.2.2.2.2.2.1 = some (w.1, w.2.1, w.2.2.1, w.2.2.2.1, w.2.2.2.2.1, w.2.2.2.2.2.1, ()) := by
 obtain ⟨q0, q1, q2⟩ := h.A4; have hf := h.vK; have hs := h.said.2; have hh := h.heard; have Zt := h.list; have l1 := cX (round := jn) (e := .inl (w.1, w.2.1, w.2.2.1, w.2.2.2.1, w.2.2.2.2.1, w.2.2.2.2.2.1, (0 : Int), [], [], [], [], [], w.1, w.2.1, w.2.2.1, [], [], w.2.2.2.2.2.1, ())) w.2.2.1.length (fun k => (w.1, w.2.1, w.2.2.1, w.2.2.2.1, w.2.2.2.2.1, w.2.2.2.2.2.1, (0 : Int), [], [], [], [], [], w.1, w.2.1, w.2.2.1.take k, [], [], w.2.2.2.2.2.1, ((k : Nat) : Int), ())) (by
   simp only [jn, ow, aD, cond_false, List.take_length]) (fun k hk => by
   have hc := (lJ (w.2.2.1[k]).1 (w.2.2.1[k]).2.1 (w.2.2.1[k]).2.2.1 (w.2.2.1[k]).2.2.2.1 (w.2.2.1[k]).2.2.2.2.1 (w.2.2.1[k]).2.2.2.2.2.1 (w.2.2.1[k]).2.2.2.2.2.2.1 (w.2.2.1[k]).2.2.2.2.2.2.2.1 (w.2.2.1[k]).2.2.2.2.2.2.2.2.1 (w.2.2.1[k]).2.2.2.2.2.2.2.2.2.1 (w.2.2.1[k]).2.2.2.2.2.2.2.2.2.2.1 (w.2.2.1[k]).2.2.2.2.2.2.2.2.2.2.2.1 (w.2.2.1[k]).2.2.2.2.2.2.2.2.2.2.2.2.1 (w.2.2.1[k]).2.2.2.2.2.2.2.2.2.2.2.2.2.1 (w.2.2.1[k]).2.2.2.2.2.2.2.2.2.2.2.2.2.2.1 (w.2.2.1[k]).2.2.2.2.2.2.2.2.2.2.2.2.2.2.2.1 (Nat.le_trans (h.m8 _ (List.getElem_mem hk)).1.small (by decide))).1; simp only [jn, ow, ax hk, ak, cond_true, au, List.getElem?_eq_getElem hk, Option.bind_some, hc, List.length_take, aF (show (min k w.2.2.1.length + 1) * 208 ≤ lim by unfold lim; omega), aG (show k < 4611686018427387904 by omega)]; rw [List.take_succ_eq_append_getElem hk])
 have l1 : aE jn (w.1, w.2.1, w.2.2.1, w.2.2.2.1, w.2.2.2.2.1, w.2.2.2.2.2.1, (0 : Int), [], [], [], [], [], w.1, w.2.1, [], [], [], w.2.2.2.2.2.1, (0 : Int), ()) = _ := l1; have l2 := cX (round := jo) (e := .inl (w.1, w.2.1, w.2.2.1, w.2.2.2.1, w.2.2.2.2.1, w.2.2.2.2.2.1, (0 : Int), [], [], [], [], [], w.1, w.2.1, w.2.2.1, w.2.2.2.1, [], w.2.2.2.2.2.1, ())) w.2.2.2.1.length (fun k => (w.1, w.2.1, w.2.2.1, w.2.2.2.1, w.2.2.2.2.1, w.2.2.2.2.2.1, (0 : Int), [], [], [], [], [], w.1, w.2.1, w.2.2.1, w.2.2.2.1.take k, [], w.2.2.2.2.2.1, ((k : Nat) : Int), ())) (by
   simp only [jo, oz, aD, cond_false, List.take_length]) (fun k hk => by
   have hc := (fU (w.2.2.2.1[k]).2.2.1 (w.2.2.2.1[k]).2.2.2.1 (w.2.2.2.1[k]).2.2.2.2.1 (w.2.2.2.1[k]).2.2.2.2.2.1 (w.2.2.2.1[k]).2.2.2.2.2.2.1 (w.2.2.2.1[k]).2.2.2.2.2.2.2.1 (Nat.le_trans (h.uc _ (List.getElem_mem hk)).vK (by decide))).1; simp only [jo, oz, ax hk, ak, cond_true, au, List.getElem?_eq_getElem hk, Option.bind_some, hc, List.length_take, aF (show (min k w.2.2.2.1.length + 1) * 120 ≤ lim by unfold lim; omega), aG (show k < 4611686018427387904 by omega)]; rw [List.take_succ_eq_append_getElem hk])
 have l2 : aE jo (w.1, w.2.1, w.2.2.1, w.2.2.2.1, w.2.2.2.2.1, w.2.2.2.2.2.1, (0 : Int), [], [], [], [], [], w.1, w.2.1, w.2.2.1, [], [], w.2.2.2.2.2.1, (0 : Int), ()) = _ := l2; have l3 := cX (round := jq) (e := .inl ((0 : Int), [], [], [], [], [], w.1, w.2.1, w.2.2.1, w.2.2.2.1, w.2.2.2.2.1, w.2.2.2.2.2.1, ())) w.2.2.2.2.1.length (fun k => (w.1, w.2.1, w.2.2.1, w.2.2.2.1, w.2.2.2.2.1, w.2.2.2.2.2.1, (0 : Int), [], [], [], [], [], w.1, w.2.1, w.2.2.1, w.2.2.2.1, w.2.2.2.2.1.take k, w.2.2.2.2.2.1, ((k : Nat) : Int), ())) (by
   simp only [jq, oA, aD, cond_false, List.take_length]) (fun k hk => by
   have hx := Zt _ (List.getElem_mem hk); simp only [jq, oA, ax hk, ak, cond_true, au, List.getElem?_eq_getElem hk, Option.bind_some, List.length_take, List.nil_append, aF (show (0 + (w.2.2.2.2.1[k]).1.length) * 40 ≤ lim by unfold lim; omega), aF (show (min k w.2.2.2.2.1.length + 1) * 24 ≤ lim by unfold lim; omega), aG (show k < 4611686018427387904 by omega)]; rw [List.take_succ_eq_append_getElem hk])
 have l3 : aE jq (w.1, w.2.1, w.2.2.1, w.2.2.2.1, w.2.2.2.2.1, w.2.2.2.2.2.1, (0 : Int), [], [], [], [], [], w.1, w.2.1, w.2.2.1, w.2.2.2.1, [], w.2.2.2.2.2.1, (0 : Int), ()) = _ := l3; unfold tM; simp only [aF (show (0 + w.2.1.length) * 8 ≤ lim by unfold lim; omega), aF (show (0 + w.2.2.2.2.2.1.length) * 40 ≤ lim by unfold lim; omega), cond_true, List.nil_append, l1, l2, l3, cg, Option.bind_some]
end Go.TM
set_option linter.unusedSimpArgs false
set_option linter.unusedVariables false
namespace Go.TM
open Go
theorem HR (a b : Nat) : Int.tmod ((a : Nat) : Int) ((b : Nat) : Int) = ((a % b : Nat) : Int) := rfl
def KJ {A B : Type} (xs : List (Int × Unit)) : Sum A (Int × Unit) → Sum B (Int × Unit) → Prop
 | .inl _, .inl _ => True
 | .inr a, .inr b => ∃ (k : Nat) (r : Int × Unit), b.1 = ((k : Nat) : Int) ∧ k < xs.length ∧ xs[(k + 1) % xs.length]? = some r ∧ a.1 = r.1
 | _, _ => False
theorem Mt (c d : Int) (xs : List (Int × Unit)) (h : xs.length ≤ 1048576) (h1 : 1 ≤ xs.length) :
   ∃ e f, aE cB (d, c, xs, (0 : Int), ()) = some e ∧ aE bm (xs, d, ((List.length xs : Nat) : Int), (0 : Int), ()) = some f ∧ KJ xs e f := by
 refine mb xs.length (fun k x y => x = (d, c, xs, ((k : Nat) : Int), ()) ∧ y = (xs, d, ((List.length xs : Nat) : Int), ((k : Nat) : Int), ())) (KJ xs) ?_ ⟨rfl, rfl⟩
 rintro k x y hk ⟨rfl, rfl⟩
 by_cases bX : k < xs.length
 · have hm : (k + 1) % xs.length < xs.length := Nat.mod_lt _ (by omega); simp only [cB, iG, bm, dy, ax bX, ak, cond_true, au, List.getElem?_eq_getElem bX, Option.bind_some, aG (show k < 4611686018427387904 by omega), HR, List.getElem?_eq_getElem hm,
     aj (show ¬ ((List.length xs : Nat) : Int) = 0 by omega), cond_false]
   by_cases hd : xs[k].1 = d
   · rw [af hd, af hd.symm]; exact .inl ⟨.inr (xs[(k + 1) % xs.length].1, ()), .inr (((k : Nat) : Int), ()), rfl, rfl, k, xs[(k + 1) % xs.length], rfl, bX, List.getElem?_eq_getElem hm, rfl⟩
   · rw [aj hd, aj (fun e => hd e.symm)]; exact .inr ⟨bX, _, _, rfl, rfl, rfl, rfl⟩
 · have : k = xs.length := by omega
   subst this; exact .inl ⟨.inl (), .inl (), by simp only [cB, iG, aD, cond_false], by simp only [bm, dy, aD, cond_false], trivial⟩
theorem JQ (d : Int) (xs : List (Int × Unit)) (h : xs.length ≤ 1048576) : ∃ f, aE bm (xs, d, ((List.length xs : Nat) : Int), (0 : Int), ()) = some f := by
 obtain ⟨f, hf, _⟩ := ev (round := bm) (x := (xs, d, ((List.length xs : Nat) : Int), ((0 : Nat) : Int), ())) xs.length (fun k x => x = (xs, d, ((List.length xs : Nat) : Int), ((k : Nat) : Int), ())) (fun _ => True) (by
   rintro x rfl
   exact ⟨.inl (), by simp only [bm, dy, aD, cond_false], trivial⟩) (by
   rintro k x hk rfl
   simp only [bm, dy, ax hk, ak, cond_true, au, List.getElem?_eq_getElem hk, Option.bind_some, aG (show k < 4611686018427387904 by omega)]
   cases decide (d = xs[k].1)
   · exact .inr ⟨_, rfl, rfl⟩
   · exact .inl ⟨_, rfl, trivial⟩) rfl
 exact ⟨f, hf⟩
theorem Mv (c d : Int) (xs : List (Int × Unit)) (h : xs.length ≤ 1048576) : ∃ b, bS c xs d = some (b, ()) ∧ q7 c xs d = some (b, ()) := by
 obtain ⟨b, h1, h2, h3⟩ := zM c xs h; unfold bS q7 iI; rw [h1]; simp only [Option.bind_some]
 cases b with
 | false =>
   obtain ⟨f, hf⟩ := JQ d xs h; rw [hf]
   cases f with
   | inl f => exact ⟨0, rfl, rfl⟩
   | inr f =>
     refine ⟨0, rfl, ?_⟩; simp only [cg, Option.bind_some, h2]
     cases decide (f.1 < 0) <;> rfl
 | true =>
   obtain ⟨l1, l2⟩ := h3 rfl; obtain ⟨e, f, g1, g2, g3⟩ := Mt c d xs h l1; rw [g1, g2]
   cases e with
   | inl e => cases f with
     | inl f => exact ⟨0, rfl, rfl⟩
     | inr f => exact g3.elim
   | inr e => cases f with
     | inl f => exact g3.elim
     | inr f =>
       obtain ⟨k, r, q1, q2, q3, q4⟩ := g3; refine ⟨e.1, rfl, ?_⟩; simp only [cg, Option.bind_some, h2, q1, aj (show ¬ ((k : Nat) : Int) < 0 by omega), cond_false, Bool.not_true, aj (show ¬ ((List.length xs : Nat) : Int) = 0 by omega),
         aG (show k < 4611686018427387904 by omega), HR, ak, cond_true, au, q3, q4]
end Go.TM
set_option linter.unusedSimpArgs false
set_option linter.unusedVariables false
namespace Go.TM
open Go
structure ju (n : Nat) (w : bj) : Prop where
 ring : lK w.1 w.2.1
 len : w.2.2.1.length = w.2.1.length
 ids : ∀ k (hk : k < w.2.2.1.length) (hm : k < w.2.1.length), (w.2.2.1[k]).1 = w.2.1[k].1
 m8 : ∀ m ∈ w.2.2.1, oE m
 vK : w.2.2.2.1.length ≤ 1048576 + 400 * n
 oM : ∀ f ∈ w.2.2.2.1, f.2.2.2.2.2.2.2.1.length ≤ 1048576
 heard : w.2.2.2.2.1.length = w.2.1.length
 list : ∀ h ∈ w.2.2.2.2.1, h.1.length ≤ 1048576 + 60 * n
 said : w.2.2.2.2.2.1.length ≤ 1048576 + 63 * n
theorem ea.x {n : Nat} {c : Int} {ms : cP} {w : bj} (h : ea n c ms w) : ju (n + 1) w := by
 obtain ⟨e1, e2⟩ := h.self; subst e1 e2; exact
 { ring := h.ring
   len := h.len
   ids := h.ids
   m8 := fun m hm => (h.m8 m hm).1
   vK := Nat.le_trans h.vK (Nat.le_add_left _ _)
   oM := fun f hf => Nat.le_trans (h.uc f hf).vK (by decide)
   heard := h.heard
   list := fun x hx => Nat.le_trans (h.list x hx) (Nat.le_trans (Nat.mul_le_mul_left 60 (Nat.le_succ n)) (Nat.le_add_left _ _))
   said := Nat.le_trans h.said.2 (Nat.le_trans (Nat.mul_le_mul_left 63 (Nat.le_succ n)) (Nat.le_add_left _ _)) }
theorem ju.A4 {n : Nat} {w : bj} (h : ju n w) : w.2.1.length ≤ 5 ∧ w.2.2.1.length ≤ 5 ∧ 1 ≤ w.2.1.length := by
 have := h.ring.2.1; have := h.len; omega
theorem ju.inj {n : Nat} {w : bj} (h : ju n w) {i j : Nat} (hi : i < w.2.2.1.length) (hj : j < w.2.2.1.length) (e : (w.2.2.1[i]).1 = (w.2.2.1[j]).1) : i = j := by
 have Ve : i < w.2.1.length := by rw [← h.len]; exact hi
 have Ha : j < w.2.1.length := by rw [← h.len]; exact hj
 rw [h.ids i hi Ve, h.ids j hj Ha] at e; exact FQ h.ring.2.2 Ve Ha e
theorem JR (w : bj) (h : w.2.2.1.length ≤ 1048576) (id : Int) : ∃ a, dW w.1 w.2.1 w.2.2.1 w.2.2.2.1 w.2.2.2.2.1 w.2.2.2.2.2.1 id = some (a, w.1, w.2.1, w.2.2.1, w.2.2.2.1, w.2.2.2.2.1, w.2.2.2.2.2.1, ()) ∧ ((a = -1 ∧ ∀ k (hk : k < w.2.2.1.length), (w.2.2.1[k]).1 ≠ id) ∨ ∃ k, ∃ hk : k < w.2.2.1.length, a = ((k : Nat) : Int) ∧ (w.2.2.1[k]).1 = id) := by
 obtain ⟨e, he, hq⟩ := ev (round := bT) (x := (w.2.2.1, [([(id, ())], ())], ((List.length w.2.2.1 : Nat) : Int), ((0 : Nat) : Int), ())) w.2.2.1.length (fun k x => x = (w.2.2.1, [([(id, ())], ())], ((List.length w.2.2.1 : Nat) : Int), ((k : Nat) : Int), ()) ∧ ∀ j (hj : j < w.2.2.1.length), j < k → (w.2.2.1[j]).1 ≠ id)
   (fun e => (e = .inl () ∧ ∀ k (hk : k < w.2.2.1.length), (w.2.2.1[k]).1 ≠ id) ∨ ∃ k, ∃ hk : k < w.2.2.1.length, e = .inr (((k : Nat) : Int), ()) ∧ (w.2.2.1[k]).1 = id) (by
     rintro x ⟨rfl, g⟩
     exact ⟨_, by simp only [bT, fe, aD, cond_false], .inl ⟨rfl, fun k hk => g k hk hk⟩⟩) (by
     rintro k x hk ⟨rfl, g⟩
     simp only [bT, fe, lz, ax hk, ak, cond_true, au, List.getElem?_eq_getElem hk, List.getElem?_cons_zero, Option.bind_some, aG (show k < 4611686018427387904 by omega)]
     by_cases e : (w.2.2.1[k]).1 = id
     · rw [af e]; exact .inl ⟨_, rfl, .inr ⟨k, hk, rfl, e⟩⟩
     · rw [aj e]; refine .inr ⟨_, rfl, rfl, fun j hj F2 => ?_⟩
       by_cases e2 : j < k
       · exact g j hj e2
       · have : j = k := by omega
         subst this; exact e) ⟨rfl, fun j hj h => by omega⟩
 have he : aE bT (w.2.2.1, [([(id, ())], ())], ((List.length w.2.2.1 : Nat) : Int), (0 : Int), ()) = some e := he; unfold dW gp; rw [he]; rcases hq with ⟨rfl, g⟩ | ⟨k, hk, rfl, g⟩
 · exact ⟨_, rfl, .inl ⟨rfl, g⟩⟩
 · exact ⟨_, rfl, .inr ⟨k, hk, rfl, g⟩⟩
theorem KK {n : Nat} {w : bj} (h : ju n w) (id : Int) : ∃ a, j7 w.1 w.2.1 w.2.2.1 w.2.2.2.1 w.2.2.2.2.1 w.2.2.2.2.2.1 id = some (a, w.1, w.2.1, w.2.2.1, w.2.2.2.1, w.2.2.2.2.1, w.2.2.2.2.2.1, ()) ∧ dW w.1 w.2.1 w.2.2.1 w.2.2.2.1 w.2.2.2.2.1 w.2.2.2.2.2.1 id = some (a, w.1, w.2.1, w.2.2.1, w.2.2.2.1, w.2.2.2.2.1, w.2.2.2.2.2.1, ()) ∧ ((a = -1 ∧ ∀ k (hk : k < w.2.2.1.length), (w.2.2.1[k]).1 ≠ id) ∨ ∃ k, ∃ hk : k < w.2.2.1.length, a = ((k : Nat) : Int) ∧ (w.2.2.1[k]).1 = id) := by
 have hl := h.A4.2.1; obtain ⟨a, e1, q1⟩ := JN w (by omega) id; obtain ⟨b, e2, q2⟩ := JR w (by omega) id; have hab : b = a := by
   rcases q1 with ⟨rfl, g1⟩ | ⟨i, hi, rfl, g1⟩
   · rcases q2 with ⟨rfl, _⟩ | ⟨j, hj, rfl, g2⟩
     · rfl
     · exact absurd g2 (g1 j hj)
   · rcases q2 with ⟨rfl, g2⟩ | ⟨j, hj, rfl, g2⟩
     · exact absurd g1 (g2 i hi)
     · rw [h.inj hj hi (g2.trans g1.symm)]
 subst hab; exact ⟨b, e1, e2, q1⟩
def iN (ms : cP) (id : Int) (x : cH) : List lS := (ms.filter fun m => !decide (m.1 = id)).map fun m => (m.1, false, 0, 0, 0, 0, 0, [], x.1, x.2.1, x.2.2.1, x.2.2.2.1, ())
theorem DM (ms : cP) (id : Int) (x : cH) {k : Nat} (hk : k < ms.length) : iN (ms.take (k + 1)) id x = iN (ms.take k) id x ++ (bif !decide (ms[k].1 = id) then [(ms[k].1, false, 0, 0, 0, 0, 0, [], x.1, x.2.1, x.2.2.1, x.2.2.2.1, ())] else []) := by
 unfold iN; rw [List.take_succ_eq_append_getElem hk, List.filter_append, List.map_append, List.filter_cons]
 cases decide (ms[k].1 = id) <;> rfl
theorem FU (ms : cP) (id : Int) (x : cH) : (iN ms id x).length ≤ ms.length := by
 unfold iN; rw [List.length_map]; exact List.length_filter_le _ _
theorem HS (x : cH) (id : Int) (mt : List cK) : fW mt id x = ((mt.map (·.1)).filter fun i => !decide (i = id)).map fun i => (i, false, 0, 0, 0, 0, 0, [], x.1, x.2.1, x.2.2.1, x.2.2.2.1, ()) := by
 unfold fW
 induction mt with
 | nil => rfl
 | cons m mt ih =>
   rw [List.filter_cons, List.map_cons, List.filter_cons]
   cases decide (m.1 = id) <;> simp_all
theorem FV (x : cH) (id : Int) (ms : cP) : iN ms id x = ((ms.map (·.1)).filter fun i => !decide (i = id)).map fun i => (i, false, 0, 0, 0, 0, 0, [], x.1, x.2.1, x.2.2.1, x.2.2.2.1, ()) := by
 unfold iN
 induction ms with
 | nil => rfl
 | cons m ms ih =>
   rw [List.filter_cons, List.map_cons, List.filter_cons]
   cases decide (m.1 = id) <;> simp_all
theorem O9 {w : bj} (hl : w.2.2.1.length = w.2.1.length) (hi : ∀ k (hk : k < w.2.2.1.length) (hm : k < w.2.1.length), (w.2.2.1[k]).1 = w.2.1[k].1) (id : Int) (x : cH) : iN w.2.1 id x = fW w.2.2.1 id x := by
 rw [HS, FV]; have : w.2.1.map (·.1) = w.2.2.1.map (·.1) := by
   apply List.ext_getElem
   · rw [List.length_map, List.length_map, hl]
   · intro k h1 h2; rw [List.length_map] at h1 h2; rw [List.getElem_map, List.getElem_map]; exact (hi k h2 h1).symm
 rw [this]
theorem AQ (w : bj) (id : Int) (l : aK) (hl : w.2.2.1.length = w.2.1.length) (hi : ∀ k (hk : k < w.2.2.1.length) (hm : k < w.2.1.length), (w.2.2.1[k]).1 = w.2.1[k].1) (h1 : w.2.1.length ≤ 5) (h2 : w.2.2.2.1.length ≤ 1073741824) (h3 : l.length ≤ 1048576) : dB w.1 w.2.1 w.2.2.1 w.2.2.2.1 w.2.2.2.2.1 w.2.2.2.2.2.1 id l = some (w.1, w.2.1, w.2.2.1, w.2.2.2.1 ++ dg w.2.2.1 id l, w.2.2.2.2.1, w.2.2.2.2.2.1, ()) := by
 have inner : ∀ (fl : List lS) (i : Nat) (M0 : i < l.length), fl.length ≤ 2147483648 → aE cY (w.1, w.2.1, w.2.2.1, fl, w.2.2.2.2.1, w.2.2.2.2.2.1, id, (l[i]).1, (l[i]).2.1, (l[i]).2.2.1, (l[i]).2.2.2.1, l, ((List.length l : Nat) : Int), ((i : Nat) : Int), w.2.1, ((List.length w.2.1 : Nat) : Int), (0 : Int), ()) = some (.inl (w.1, w.2.1, w.2.2.1, fl ++ fW w.2.2.1 id l[i], w.2.2.2.2.1, w.2.2.2.2.2.1, id, l, ((List.length l : Nat) : Int), ((i : Nat) : Int), ())) := by
   intro fl i M0 hf; have l1 := cX (round := cY) (e := .inl (w.1, w.2.1, w.2.2.1, fl ++ iN w.2.1 id l[i], w.2.2.2.2.1, w.2.2.2.2.2.1, id, l, ((List.length l : Nat) : Int), ((i : Nat) : Int), ())) w.2.1.length (fun k => (w.1, w.2.1, w.2.2.1, fl ++ iN (w.2.1.take k) id l[i], w.2.2.2.2.1, w.2.2.2.2.2.1, id, (l[i]).1, (l[i]).2.1, (l[i]).2.2.1, (l[i]).2.2.2.1, l, ((List.length l : Nat) : Int), ((i : Nat) : Int), w.2.1, ((List.length w.2.1 : Nat) : Int), ((k : Nat) : Int), ())) (by
     simp only [cY, kc, aD, cond_false, List.take_length]) (fun k hk => by
     have hb : Nat.ble (((fl ++ iN (w.2.1.take k) id l[i]).length + 1) * 120) lim = true := aF (by
       have := FU (w.2.1.take k) id l[i]; rw [List.length_take] at this; rw [List.length_append]; unfold lim; omega)
     rw [DM w.2.1 id l[i] hk]; simp only [cY, kc, ax hk, ak, cond_true, au, List.getElem?_eq_getElem hk, Option.bind_some, aG (show k < 4611686018427387904 by omega), hb]
     cases decide ((w.2.1[k]).1 = id)
     · simp only [Bool.not_false, cond_true, List.append_assoc]
     · simp only [Bool.not_true, cond_false, List.append_nil])
   have l1 : aE cY (w.1, w.2.1, w.2.2.1, fl ++ iN (w.2.1.take 0) id l[i], w.2.2.2.2.1, w.2.2.2.2.2.1, id, (l[i]).1, (l[i]).2.1, (l[i]).2.2.1, (l[i]).2.2.2.1, l, ((List.length l : Nat) : Int), ((i : Nat) : Int), w.2.1, ((List.length w.2.1 : Nat) : Int), (0 : Int), ()) = _ := l1; rw [show iN (w.2.1.take 0) id l[i] = [] from rfl, List.append_nil, O9 hl hi] at l1; exact l1
 have l2 := cX (round := cZ) (e := .inl (w.1, w.2.1, w.2.2.1, w.2.2.2.1 ++ dg w.2.2.1 id l, w.2.2.2.2.1, w.2.2.2.2.2.1, ())) l.length (fun k => (w.1, w.2.1, w.2.2.1, w.2.2.2.1 ++ dg w.2.2.1 id (l.take k), w.2.2.2.2.1, w.2.2.2.2.2.1, id, l, ((List.length l : Nat) : Int), ((k : Nat) : Int), ())) (by
   simp only [cZ, ke, aD, cond_false, List.take_length]) (fun k hk => by
   have hln := lM w.2.2.1 id 5 (by omega) (l.take k); rw [List.length_take] at hln; have AW := inner (w.2.2.2.1 ++ dg w.2.2.1 id (l.take k)) k hk (by rw [List.length_append]; omega); rw [C5 w.2.2.1 id l hk]; simp only [cZ, ke, ax hk, ak, cond_true, au, List.getElem?_eq_getElem hk, Option.bind_some]; rw [AW]; simp only [jd, aG (show k < 4611686018427387904 by omega), List.append_assoc])
 have l2 : aE cZ (w.1, w.2.1, w.2.2.1, w.2.2.2.1 ++ dg w.2.2.1 id (l.take 0), w.2.2.2.2.1, w.2.2.2.2.2.1, id, l, ((List.length l : Nat) : Int), (0 : Int), ()) = _ := l2; rw [show dg w.2.2.1 id (l.take 0) = [] from rfl, List.append_nil] at l2; have l2 : aE cZ (w.1, w.2.1, w.2.2.1, w.2.2.2.1, w.2.2.2.2.1, w.2.2.2.2.2.1, id, l, ((List.length l : Nat) : Int), (0 : Int), ()) = _ := l2; unfold dB; rw [l2]; rfl
end Go.TM
set_option linter.unusedSimpArgs false
set_option linter.unusedVariables false
namespace Go.TM
open Go
theorem HT (w : bj) (id : Int) (t : jG) (h1 : w.2.1.length ≤ 1048576) (h2 : w.2.2.2.1.length ≤ 2147483648) (h3 : t.2.2.2.2.2.1.length ≤ 1048576) : fh w.1 w.2.1 w.2.2.1 w.2.2.2.1 w.2.2.2.2.1 w.2.2.2.2.2.1 id t.1 t.2.1 t.2.2.1 t.2.2.2.1 t.2.2.2.2.1 t.2.2.2.2.2.1 = some ((gu w (w.2.2.2.1 ++ [fD (iw w.1 w.2.1 id) t])).1, (gu w (w.2.2.2.1 ++ [fD (iw w.1 w.2.1 id) t])).2.1, (gu w (w.2.2.2.1 ++ [fD (iw w.1 w.2.1 id) t])).2.2.1, (gu w (w.2.2.2.1 ++ [fD (iw w.1 w.2.1 id) t])).2.2.2.1, (gu w (w.2.2.2.1 ++ [fD (iw w.1 w.2.1 id) t])).2.2.2.2.1, (gu w (w.2.2.2.1 ++ [fD (iw w.1 w.2.1 id) t])).2.2.2.2.2.1, ()) := by
 obtain ⟨b, n1, n2⟩ := Mv w.1 id w.2.1 h1; have hb : iw w.1 w.2.1 id = b := by unfold iw; rw [n1]
 unfold fh; simp only [n2, (fU t.1 t.2.1 t.2.2.1 t.2.2.2.1 t.2.2.2.2.1 t.2.2.2.2.2.1 h3).2, Option.bind_some, aF (show (w.2.2.2.1.length + 1) * 120 ≤ lim by unfold lim; omega), cond_true, hb]; rfl
theorem QO (m : cK) (h : m.2.2.2.1.length ≤ 1048576) : nm m.1 m.2.1 m.2.2.1 m.2.2.2.1 m.2.2.2.2.1 m.2.2.2.2.2.1 m.2.2.2.2.2.2.1 m.2.2.2.2.2.2.2.1 m.2.2.2.2.2.2.2.2.1 m.2.2.2.2.2.2.2.2.2.1 m.2.2.2.2.2.2.2.2.2.2.1 m.2.2.2.2.2.2.2.2.2.2.2.1 m.2.2.2.2.2.2.2.2.2.2.2.2.1 m.2.2.2.2.2.2.2.2.2.2.2.2.2.1 m.2.2.2.2.2.2.2.2.2.2.2.2.2.2.1 m.2.2.2.2.2.2.2.2.2.2.2.2.2.2.2.1 = some (DL m, ()) := by
 have l1 := cX (round := gk) (e := .inl (DL m, ())) m.2.2.2.1.length (fun i => (m.1, m.2.1, m.2.2.1, m.2.2.2.1, m.2.2.2.2.1, m.2.2.2.2.2.1, m.2.2.2.2.2.2.1, m.2.2.2.2.2.2.2.1, m.2.2.2.2.2.2.2.2.1, m.2.2.2.2.2.2.2.2.2.1, m.2.2.2.2.2.2.2.2.2.2.1, m.2.2.2.2.2.2.2.2.2.2.2.1, m.2.2.2.2.2.2.2.2.2.2.2.2.1, m.2.2.2.2.2.2.2.2.2.2.2.2.2.1, m.2.2.2.2.2.2.2.2.2.2.2.2.2.2.1, m.2.2.2.2.2.2.2.2.2.2.2.2.2.2.2.1, (m.2.2.2.1.take i).filter (fun x => decide (x.2.1 = m.1)), m.2.2.2.1, ((List.length m.2.2.2.1 : Nat) : Int), ((i : Nat) : Int), ())) (by
   simp only [gk, mX, aD, cond_false, List.take_length]; rfl) (fun i hi => by
   have hb : Nat.ble ((((m.2.2.2.1.take i).filter (fun x => decide (x.2.1 = m.1))).length + 1) * 40) lim = true := aF (by
     have := List.length_filter_le (fun x : cH => decide (x.2.1 = m.1)) (m.2.2.2.1.take i); rw [List.length_take] at this; unfold lim; omega)
   rw [List.take_succ_eq_append_getElem hi, List.filter_append, List.filter_cons]; simp only [gk, mX, ax hi, ak, cond_true, au, List.getElem?_eq_getElem hi, Option.bind_some, aG (show i < 4611686018427387904 by omega), hb]
   by_cases e : (m.2.2.2.1[i]).2.1 = m.1
   · rw [af e]; rfl
   · rw [aj e]; simp only [cond_false]; rw [if_neg (by decide)]; simp)
 have l1 : aE gk (m.1, m.2.1, m.2.2.1, m.2.2.2.1, m.2.2.2.2.1, m.2.2.2.2.2.1, m.2.2.2.2.2.2.1, m.2.2.2.2.2.2.2.1, m.2.2.2.2.2.2.2.2.1, m.2.2.2.2.2.2.2.2.2.1, m.2.2.2.2.2.2.2.2.2.2.1, m.2.2.2.2.2.2.2.2.2.2.2.1, m.2.2.2.2.2.2.2.2.2.2.2.2.1, m.2.2.2.2.2.2.2.2.2.2.2.2.2.1, m.2.2.2.2.2.2.2.2.2.2.2.2.2.2.1, m.2.2.2.2.2.2.2.2.2.2.2.2.2.2.2.1, [], m.2.2.2.1, ((List.length m.2.2.2.1 : Nat) : Int), (0 : Int), ()) = _ := l1; unfold nm; rw [l1]; rfl
theorem ju.up {n n' : Nat} {w : bj} (h : ju n w) (hn : n ≤ n') : ju n' w :=
 { h with
   vK := Nat.le_trans h.vK (Nat.add_le_add_left (Nat.mul_le_mul_left _ hn) _)
   list := fun x hx => Nat.le_trans (h.list x hx) (Nat.add_le_add_left (Nat.mul_le_mul_left _ hn) _)
   said := Nat.le_trans h.said (Nat.add_le_add_left (Nat.mul_le_mul_left _ hn) _) }
theorem ju.kT {n : Nat} {w : bj} (h : ju n w) {k : Nat} (hk : k < w.2.2.1.length) {m : cK} (hm : oE m) (h1 : m.1 = (w.2.2.1[k]).1) : ju n (nN w k m) :=
 { ring := h.ring
   len := by show (w.2.2.1.set k m).length = _; rw [List.length_set]; exact h.len
   ids := fun j hj Aa => by
     have hj : j < (w.2.2.1.set k m).length := hj; show ((w.2.2.1.set k m)[j]).1 = _; rw [List.getElem_set]; rw [List.length_set] at hj
     split
     · rename_i e; subst e; rw [h1]; exact h.ids k hk Aa
     · exact h.ids j hj Aa
   m8 := fun x hx => by
     have hx : x ∈ w.2.2.1.set k m := hx; rcases List.mem_or_eq_of_mem_set hx with hx | rfl
     · exact h.m8 x hx
     · exact hm
   vK := h.vK
   oM := h.oM
   heard := h.heard
   list := h.list
   said := h.said }
theorem ju.uj {n : Nat} {w : bj} (h : ju n w) {l : List lS} (h1 : ∀ f ∈ l, f.2.2.2.2.2.2.2.1.length ≤ 1048576) (h2 : l.length ≤ 1048576 + 400 * n) : ju n (gu w l) :=
 { ring := h.ring, len := h.len, ids := h.ids, m8 := h.m8, vK := h2, oM := h1, heard := h.heard, list := h.list, said := h.said }
theorem Pb {m : cK} (hm : oE m) : (gq m).2.2.2.2.2.1.length ≤ 20 := by
 rcases hm.last with q | q
 · have : (gq m).2.2.2.2.2.1 = [] := q.2.2.2.2.2; rw [this]; exact Nat.zero_le _
 · exact q.2.2.2.2.2.1
theorem HU {ms : List cK} {id : Int} {l : aK} : ∀ f ∈ dg ms id l, f.2.2.2.2.2.2.2.1.length ≤ 1048576 := by
 intro f hf; obtain ⟨m, _, x, hx, _, rfl⟩ := zR hf; exact Nat.zero_le _
noncomputable def KM (w : bj) (k : Nat) (f : lS) (m' : cK) (said : aK) (nx : jG) : bj :=
 let w2 := eB (nN w k m') f said
 gu (gu w2 (w2.2.2.2.1 ++ dg w2.2.2.1 f.1 said)) ((w2.2.2.2.1 ++ dg w2.2.2.1 f.1 said) ++ [fD (iw w2.1 w2.2.1 f.1) nx])
inductive Came (w : bj) (f : lS) : bj → Prop where
 | no : Came w f w
 | Pc (k : Nat) (hk : k < w.2.2.1.length) (rR : (w.2.2.1[k]).1 = f.1) (ht : f.2.1 = false) : Came w f (nN w k (oF w.2.2.1[k] (f.2.2.2.2.2.2.2.2.1, f.2.2.2.2.2.2.2.2.2.1, f.2.2.2.2.2.2.2.2.2.2.1, f.2.2.2.2.2.2.2.2.2.2.2.1, ())))
 | held (k : Nat) (hk : k < w.2.2.1.length) (rR : (w.2.2.1[k]).1 = f.1) (ht : f.2.1 = true) (m' : cK) (said : aK) (j : Nat) (nx : jG) (hT : yX (f.2.2.1, f.2.2.2.1, f.2.2.2.2.1, f.2.2.2.2.2.1, f.2.2.2.2.2.2.1, f.2.2.2.2.2.2.2.1, ())) (hr : (w.2.2.1[k]).2.2.2.2.2.2.1 < f.2.2.2.1) (H : Mn w.2.2.1[k] (f.2.2.1, f.2.2.2.1, f.2.2.2.2.1, f.2.2.2.2.2.1, f.2.2.2.2.2.2.1, f.2.2.2.2.2.2.2.1, ()) m' said j nx) : Came w f (KM w k f m' said nx)
def VJ (w : bj) (k : Nat) (m' : cK) (l : aK) : bj := VF (nN w k m') (w.2.2.2.2.1.set k (l, ()))
inductive Step (w : bj) (e : lT) : bj → Prop where
 | same : Step w e w
 | VH (k : Nat) (hk : k < w.2.2.1.length) (rR : (w.2.2.1[k]).1 = e.2.1) (h1 : e.1 = 1) : Step w e (nN w k (zc w.2.2.1[k] e.2.2.2.1 e.2.2.2.2.1))
 | Zu (k : Nat) (hk : k < w.2.2.1.length) (mL : k < w.2.2.2.2.1.length) (j : Nat) (hj : (w.2.2.1[k]).2.2.2.2.2.2.2.2.2.1 + ((j : Nat) : Int) ≤ ((dw (w.2.2.1[k]).2.2.2.1 : Nat) : Int))
     (hw : ∀ i, i < j → ¬ wB (w.2.2.1[k]).2.2.2.1 (w.2.2.1[k]).2.2.2.2.2.2.2.2.1 ((w.2.2.1[k]).2.2.2.2.2.2.2.2.2.1 + ((i + 1 : Nat) : Int))) : Step w e (VJ w k (sk w.2.2.1[k] ((w.2.2.1[k]).2.2.2.2.2.2.2.2.2.1 + ((j : Nat) : Int))) ((w.2.2.2.2.1[k]).1 ++ iM (w.2.2.1[k]).2.2.2.1 (w.2.2.1[k]).2.2.2.2.2.2.2.2.2.1 j))
 | again (k : Nat) (hk : k < w.2.2.1.length) (hb : ¬ Blank (gq w.2.2.1[k])) : Step w e (rD w w.2.2.1[k])
 | dup (j : Nat) (hj : j < w.2.2.2.1.length) : Step w e (gu w (w.2.2.2.1 ++ [w.2.2.2.1[j]]))
 | drop (j : Nat) (hj : j < w.2.2.2.1.length) : Step w e (gu w (w.2.2.2.1.take j ++ w.2.2.2.1.drop (j + 1)))
 | Zv (j : Nat) (hj : j < w.2.2.2.1.length) (w' : bj) (h : Came (gu w (w.2.2.2.1.take j ++ w.2.2.2.1.drop (j + 1))) w.2.2.2.1[j] w') : Step w e w'
theorem JS {n : Nat} {w : bj} (e : lT) (h : ju n w) (hn : n ≤ 1000000) {k : Nat} (hk : k < w.2.2.1.length) : ∃ a w', ig w.1 w.2.1 w.2.2.1 w.2.2.2.1 w.2.2.2.2.1 w.2.2.2.2.2.1 ((k : Nat) : Int) = some (a, w'.1, w'.2.1, w'.2.2.1, w'.2.2.2.1, w'.2.2.2.2.1, w'.2.2.2.2.2.1, ()) ∧ jm w.1 w.2.1 w.2.2.1 w.2.2.2.1 w.2.2.2.2.1 w.2.2.2.2.2.1 ((k : Nat) : Int) = some (a, w'.1, w'.2.1, w'.2.2.1, w'.2.2.2.1, w'.2.2.2.2.1, w'.2.2.2.2.2.1, ()) ∧ ju (n + 1) w' ∧ Step w e w' := by
 obtain ⟨q0, q1, q2⟩ := h.A4; have hm := h.m8 _ (List.getElem_mem hk); have hi := (cf _ hm.items).1; have hf := h.vK; have hl := Pb hm; have hl : (w.2.2.1[k]).2.2.2.2.2.2.2.2.2.2.2.2.2.2.2.1.length ≤ 20 := hl; rw [EB w hk q1 (by omega) (by omega) (by omega) (by omega)]; unfold jm; have z : cO (w.2.2.1[k]).2.2.2.2.2.2.2.2.2.2.1 (w.2.2.1[k]).2.2.2.2.2.2.2.2.2.2.2.1 (w.2.2.1[k]).2.2.2.2.2.2.2.2.2.2.2.2.1 (w.2.2.1[k]).2.2.2.2.2.2.2.2.2.2.2.2.2.1 (w.2.2.1[k]).2.2.2.2.2.2.2.2.2.2.2.2.2.2.1 (w.2.2.1[k]).2.2.2.2.2.2.2.2.2.2.2.2.2.2.2.1 = some (m6 (gq w.2.2.1[k]), ()) := (qo (gq w.2.2.1[k])).2.1; simp only [ak, au, fH hk, List.getElem?_eq_getElem hk, Option.bind_some, cond_true, z]
 cases ZZ : m6 (gq w.2.2.1[k])
 · have p1 : fh w.1 w.2.1 w.2.2.1 w.2.2.2.1 w.2.2.2.2.1 w.2.2.2.2.2.1 (w.2.2.1[k]).1 (w.2.2.1[k]).2.2.2.2.2.2.2.2.2.2.1 (w.2.2.1[k]).2.2.2.2.2.2.2.2.2.2.2.1 (w.2.2.1[k]).2.2.2.2.2.2.2.2.2.2.2.2.1 (w.2.2.1[k]).2.2.2.2.2.2.2.2.2.2.2.2.2.1 (w.2.2.1[k]).2.2.2.2.2.2.2.2.2.2.2.2.2.2.1 (w.2.2.1[k]).2.2.2.2.2.2.2.2.2.2.2.2.2.2.2.1 = _ := HT w (w.2.2.1[k]).1 (gq w.2.2.1[k]) (by omega) (by omega) (show (gq w.2.2.1[k]).2.2.2.2.2.1.length ≤ 1048576 from by have : (gq w.2.2.1[k]).2.2.2.2.2.1.length ≤ 20 := hl; omega); have p2 := QO w.2.2.1[k] (by omega); have DN : (DL w.2.2.1[k]).length ≤ 60 := Nat.le_trans (List.length_filter_le _ _) hi; have p3 := AQ (gu w (w.2.2.2.1 ++ [fD (iw w.1 w.2.1 (w.2.2.1[k]).1) (gq w.2.2.1[k])])) (w.2.2.1[k]).1 (DL w.2.2.1[k]) h.len h.ids q0 (by show (w.2.2.2.1 ++ [_]).length ≤ _; rw [List.length_append, List.length_singleton]; omega) (by omega); refine ⟨0, rD w w.2.2.1[k], rfl, ?_, (h.up (Nat.le_succ n)).uj (fun f Pw => ?_) ?_, .again k hk fun q => by rw [(qo (gq w.2.2.1[k])).2.2.2 q] at ZZ; cases ZZ⟩
   · simp only [cond_false, p1, p2, Option.bind_some]; rw [p3]; rfl
   · rcases List.mem_append.1 Pw with Pw | Pw
     · rcases List.mem_append.1 Pw with Pw | Pw
       · exact h.oM f Pw
       · rw [List.mem_singleton] at Pw; subst Pw; show (gq w.2.2.1[k]).2.2.2.2.2.1.length ≤ 1048576; have : (gq w.2.2.1[k]).2.2.2.2.2.1.length ≤ 20 := hl; omega
     · exact HU f Pw
   · have h1 := lM w.2.2.1 (w.2.2.1[k]).1 5 q1 (DL w.2.2.1[k]); rw [List.length_append, List.length_append, List.length_singleton]; omega
 · exact ⟨1, w, rfl, rfl, h.up (Nat.le_succ n), .same⟩
theorem Mw {n : Nat} {w : bj} (e : lT) (h : ju n w) (hn : n ≤ 1000000) {k : Nat} (hk : k < w.2.2.1.length) : ∃ w', iW w.1 w.2.1 w.2.2.1 w.2.2.2.1 w.2.2.2.2.1 w.2.2.2.2.2.1 ((k : Nat) : Int) = some (w'.1, w'.2.1, w'.2.2.1, w'.2.2.2.1, w'.2.2.2.2.1, w'.2.2.2.2.2.1, ()) ∧ ff w.1 w.2.1 w.2.2.1 w.2.2.2.1 w.2.2.2.2.1 w.2.2.2.2.2.1 ((k : Nat) : Int) = some (w'.1, w'.2.1, w'.2.2.1, w'.2.2.2.1, w'.2.2.2.2.1, w'.2.2.2.2.2.1, ()) ∧ ju (n + 1) w' ∧ Step w e w' := by
 obtain ⟨q0, q1, q2⟩ := h.A4; have hm := h.m8 _ (List.getElem_mem hk); have hl := h.len; have hh := h.heard; have mL : k < w.2.2.2.2.1.length := by omega
 obtain ⟨j, m', rfl, p1, p2, p3, p4, p5, _⟩ := KG hm; have ha := (xH (w.2.2.1[k]).2.2.2.1 (Nat.le_trans (cf _ hm.items).1 (by decide))).2.2.1; have hi := (cf _ hm.items).1; have hg := hm.heard; have hj : j ≤ 60 := by omega
 have hx := h.list _ (List.getElem_mem mL); refine ⟨VF (nN w k _) (w.2.2.2.2.1.set k ((w.2.2.2.2.1[k]).1 ++ iM (w.2.2.1[k]).2.2.2.1 (w.2.2.1[k]).2.2.2.2.2.2.2.2.2.1 j, ())), ?_, ?_, ?_, .Zu k hk mL j p4 p5⟩
 · have h1 := nO w (by omega) hk (sk w.2.2.1[k] ((w.2.2.1[k]).2.2.2.2.2.2.2.2.2.1 + ((j : Nat) : Int))); unfold iW; simp only [ak, cond_true, au, List.getElem?_eq_getElem hk, Option.bind_some, p2, h1]; show (bif Nat.ble ((0 + w.2.2.2.2.1.length) * 24) lim then _ else none) = _; simp only [nN, aF (show (0 + w.2.2.2.2.1.length) * 24 ≤ lim by unfold lim; omega), cond_true, List.nil_append, fH mL, List.getElem?_eq_getElem mL, Option.bind_some, aF (show (0 + (w.2.2.2.2.1[k]).1.length) * 40 ≤ lim by unfold lim; omega), m7, aF (show ((w.2.2.2.2.1[k]).1.length + j) * 40 ≤ lim by unfold lim; omega)]; rfl
 · unfold ff; simp only [ak, cond_true, au, fH hk, List.getElem?_eq_getElem hk, Option.bind_some, p1, ax mL, fH mL, List.getElem?_eq_getElem mL, m7, aF (show ((w.2.2.2.2.1[k]).1.length + j) * 40 ≤ lim by unfold lim; omega), Nat.beq_refl]; rfl
 · have h2 := (h.kT hk p3 rfl).up (Nat.le_succ n); exact
   { ring := h2.ring, len := h2.len, ids := h2.ids, m8 := h2.m8, vK := h2.vK, oM := h2.oM, said := h2.said
     heard := by show (w.2.2.2.2.1.set k _).length = _; rw [List.length_set]; exact hh
     list := fun x qu => by
       have qu : x ∈ w.2.2.2.2.1.set k _ := qu; rcases List.mem_or_eq_of_mem_set qu with qu | rfl
       · exact h2.list x qu
       · show ((w.2.2.2.2.1[k]).1 ++ iM _ _ j).length ≤ _; rw [List.length_append, m7]; omega }
theorem Pd {m : cK} (hm : oE m) (x : cH) : oE (oF m x) ∧ (oF m x).1 = m.1 := by
 cases hx : wA x
 · have hc : oF m x = m := by
     unfold oF Mm; rw [hx]
     cases vH m <;> cases qn m.2.2.2.1 <;> rfl
   rw [hc]; exact ⟨hm, rfl⟩
 · have hq := (yW x).2.2.1 hx; rw [zT hm hq]; exact ⟨C8 hm hq, rfl⟩
theorem EI {m : cK} {t : jG} {m' : cK} {said : aK} {j : Nat} {nx : jG} (H : Mn m t m' said j nx) (hT : yX t) {f : lS} (H0 : (f.2.2.1, f.2.2.2.1, f.2.2.2.2.1, f.2.2.2.2.2.1, f.2.2.2.2.2.2.1, f.2.2.2.2.2.2.2.1, ()) = t) : oH f said = said.drop (said.length - j) := by
 have hs : f.2.2.2.2.1 = t.2.2.1 := by rw [← H0]
 have h1 : ∀ x ∈ rb t m.2.2.2.1, ¬ t.2.2.1 < x.1 := fun x hx => by
   have hw := (List.mem_filter.1 hx).2; rw [decide_eq_true_eq] at hw; unfold aY at hw; obtain ⟨y, hy, e⟩ := List.mem_map.1 hw; obtain ⟨k, hk, rfl⟩ := List.mem_iff_getElem.1 hy; have := (hT.2.2.2.2.2.2 k hk hk).2.1; omega
 have h2 : ∀ x ∈ de t.2.2.1 m.1 m.2.2.2.2.1 m.2.2.2.2.2.1 j, t.2.2.1 < x.1 := fun x hx => by
   obtain ⟨i, hi, rfl⟩ := pk hx; show t.2.2.1 < t.2.2.1 + ((i + 1 : Nat) : Int); omega
 unfold oH; rw [hs, H.said, List.filter_append, List.length_append, fV, Nat.add_sub_cancel, List.drop_left, List.filter_eq_nil_iff.2 (fun x hx => by rw [decide_eq_true_eq]; exact h1 x hx), List.nil_append, List.filter_eq_self.2 (fun x hx => decide_eq_true (h2 x hx))]
theorem JT (w : bj) (f : lS) (l : aK) (t : jG) (h1 : w.2.2.2.2.2.1.length ≤ 1073741824) (h2 : l.length ≤ 1048576) : aE bH (w.1, w.2.1, w.2.2.1, w.2.2.2.1, w.2.2.2.2.1, w.2.2.2.2.2.1, f.1, f.2.1, f.2.2.1, f.2.2.2.1, f.2.2.2.2.1, f.2.2.2.2.2.1, f.2.2.2.2.2.2.1, f.2.2.2.2.2.2.2.1, f.2.2.2.2.2.2.2.2.1, f.2.2.2.2.2.2.2.2.2.1, f.2.2.2.2.2.2.2.2.2.2.1, f.2.2.2.2.2.2.2.2.2.2.2.1, l, t.1, t.2.1, t.2.2.1, t.2.2.2.1, t.2.2.2.2.1, t.2.2.2.2.2.1, (0 : Int), ()) = some (.inl ((eB w f l).1, (eB w f l).2.1, (eB w f l).2.2.1, (eB w f l).2.2.2.1, (eB w f l).2.2.2.2.1, (eB w f l).2.2.2.2.2.1, f.1, f.2.1, f.2.2.1, f.2.2.2.1, f.2.2.2.2.1, f.2.2.2.2.2.1, f.2.2.2.2.2.2.1, f.2.2.2.2.2.2.2.1, f.2.2.2.2.2.2.2.2.1, f.2.2.2.2.2.2.2.2.2.1, f.2.2.2.2.2.2.2.2.2.2.1, f.2.2.2.2.2.2.2.2.2.2.2.1, l, t.1, t.2.1, t.2.2.1, t.2.2.2.1, t.2.2.2.2.1, t.2.2.2.2.2.1, ())) := by
 have l1 := cX (round := bH) (e := .inl ((eB w f l).1, (eB w f l).2.1, (eB w f l).2.2.1, (eB w f l).2.2.2.1, (eB w f l).2.2.2.2.1, (eB w f l).2.2.2.2.2.1, f.1, f.2.1, f.2.2.1, f.2.2.2.1, f.2.2.2.2.1, f.2.2.2.2.2.1, f.2.2.2.2.2.2.1, f.2.2.2.2.2.2.2.1, f.2.2.2.2.2.2.2.2.1, f.2.2.2.2.2.2.2.2.2.1, f.2.2.2.2.2.2.2.2.2.2.1, f.2.2.2.2.2.2.2.2.2.2.2.1, l, t.1, t.2.1, t.2.2.1, t.2.2.2.1, t.2.2.2.2.1, t.2.2.2.2.2.1, ())) l.length (fun k => ((eB w f (l.take k)).1, (eB w f (l.take k)).2.1, (eB w f (l.take k)).2.2.1, (eB w f (l.take k)).2.2.2.1, (eB w f (l.take k)).2.2.2.2.1, (eB w f (l.take k)).2.2.2.2.2.1, f.1, f.2.1, f.2.2.1, f.2.2.2.1, f.2.2.2.2.1, f.2.2.2.2.2.1, f.2.2.2.2.2.2.1, f.2.2.2.2.2.2.2.1, f.2.2.2.2.2.2.2.2.1, f.2.2.2.2.2.2.2.2.2.1, f.2.2.2.2.2.2.2.2.2.2.1, f.2.2.2.2.2.2.2.2.2.2.2.1, l, t.1, t.2.1, t.2.2.1, t.2.2.2.1, t.2.2.2.2.1, t.2.2.2.2.2.1, ((k : Nat) : Int), ())) (by
   simp only [bH, fA, aD, cond_false, List.take_length]) (fun k hk => by
   have hl := zf f (l.take k); rw [List.length_take] at hl; have Lj : Nat.ble ((0 + (w.2.2.2.2.2.1 ++ oH f (l.take k)).length) * 40) lim = true := aF (by rw [List.length_append]; unfold lim; omega); have F0 : Nat.ble (((w.2.2.2.2.2.1 ++ oH f (l.take k)).length + 1) * 40) lim = true := aF (by rw [List.length_append]; unfold lim; omega); have e : oH f (l.take (k + 1)) = oH f (l.take k) ++ (if decide (f.2.2.2.2.1 < (l[k]).1) = true then [l[k]] else []) := by
     unfold oH; rw [List.take_succ_eq_append_getElem hk, List.filter_append, List.filter_cons, List.filter_nil]
   simp only [eB, VG, e, bH, fA, ax hk, fH hk, ak, cond_true, au, List.getElem?_eq_getElem hk, Option.bind_some, aG (show k < 4611686018427387904 by omega), Lj, F0, List.nil_append, cC]
   by_cases e : f.2.2.2.2.1 < (l[k]).1
   · rw [af e, if_pos rfl, ← List.append_assoc]; rfl
   · rw [aj e, if_neg (by decide)]; simp only [cond_false]; rw [List.append_nil])
 have l1 : aE bH ((eB w f (l.take 0)).1, (eB w f (l.take 0)).2.1, (eB w f (l.take 0)).2.2.1, (eB w f (l.take 0)).2.2.2.1, (eB w f (l.take 0)).2.2.2.2.1, (eB w f (l.take 0)).2.2.2.2.2.1, f.1, f.2.1, f.2.2.1, f.2.2.2.1, f.2.2.2.2.1, f.2.2.2.2.2.1, f.2.2.2.2.2.2.1, f.2.2.2.2.2.2.2.1, f.2.2.2.2.2.2.2.2.1, f.2.2.2.2.2.2.2.2.2.1, f.2.2.2.2.2.2.2.2.2.2.1, f.2.2.2.2.2.2.2.2.2.2.2.1, l, t.1, t.2.1, t.2.2.1, t.2.2.2.1, t.2.2.2.2.1, t.2.2.2.2.2.1, (0 : Int), ()) = _ := l1; have e0 : eB w f (l.take 0) = w := by unfold eB; rw [show oH f (l.take 0) = [] from rfl, List.append_nil]; rfl
 rwa [e0] at l1
theorem Mx {n : Nat} {w : bj} (h : ju n w) (hn : n ≤ 1000000) (f : lS) (hf : f.2.2.2.2.2.2.2.1.length ≤ 1048576) : ∃ a w', cN w.1 w.2.1 w.2.2.1 w.2.2.2.1 w.2.2.2.2.1 w.2.2.2.2.2.1 f.1 f.2.1 f.2.2.1 f.2.2.2.1 f.2.2.2.2.1 f.2.2.2.2.2.1 f.2.2.2.2.2.2.1 f.2.2.2.2.2.2.2.1 f.2.2.2.2.2.2.2.2.1 f.2.2.2.2.2.2.2.2.2.1 f.2.2.2.2.2.2.2.2.2.2.1 f.2.2.2.2.2.2.2.2.2.2.2.1 = some (a, w'.1, w'.2.1, w'.2.2.1, w'.2.2.2.1, w'.2.2.2.2.1, w'.2.2.2.2.2.1, ()) ∧ fj w.1 w.2.1 w.2.2.1 w.2.2.2.1 w.2.2.2.2.1 w.2.2.2.2.2.1 f.1 f.2.1 f.2.2.1 f.2.2.2.1 f.2.2.2.2.1 f.2.2.2.2.2.1 f.2.2.2.2.2.2.1 f.2.2.2.2.2.2.2.1 f.2.2.2.2.2.2.2.2.1 f.2.2.2.2.2.2.2.2.2.1 f.2.2.2.2.2.2.2.2.2.2.1 f.2.2.2.2.2.2.2.2.2.2.2.1 = some (a, w'.1, w'.2.1, w'.2.2.1, w'.2.2.2.1, w'.2.2.2.2.1, w'.2.2.2.2.2.1, ()) ∧ ju (n + 1) w' ∧ Came w f w' := by
 obtain ⟨q0, q1, q2⟩ := h.A4; have QK := h.vK; obtain ⟨a, e1, i1, hq⟩ := KK h f.1; unfold cN fj; simp only [e1, i1, Option.bind_some]; rcases hq with ⟨rfl, _⟩ | ⟨k, hk, rfl, rR⟩
 · exact ⟨1, w, rfl, rfl, h.up (Nat.le_succ n), .no⟩
 have hm := h.m8 _ (List.getElem_mem hk); have hi := (cf _ hm.items).1; have hw := hm.small; simp only [aj (show ¬ ((k : Nat) : Int) < 0 by omega), cond_false, ak, cond_true, au, fH hk, List.getElem?_eq_getElem hk, Option.bind_some]
 cases ht : f.2.1
 · obtain ⟨e2, i2⟩ := CX w.2.2.1[k] (f.2.2.2.2.2.2.2.2.1, f.2.2.2.2.2.2.2.2.2.1, f.2.2.2.2.2.2.2.2.2.2.1, f.2.2.2.2.2.2.2.2.2.2.2.1, ()) (Nat.le_trans hw (by decide)); obtain ⟨c1, c2⟩ := Pd hm (f.2.2.2.2.2.2.2.2.1, f.2.2.2.2.2.2.2.2.2.1, f.2.2.2.2.2.2.2.2.2.2.1, f.2.2.2.2.2.2.2.2.2.2.2.1, ()); have e3 := nO w (by omega) hk (oF w.2.2.1[k] (f.2.2.2.2.2.2.2.2.1, f.2.2.2.2.2.2.2.2.2.1, f.2.2.2.2.2.2.2.2.2.2.1, f.2.2.2.2.2.2.2.2.2.2.2.1, ())); refine ⟨0, nN w k (oF w.2.2.1[k] (f.2.2.2.2.2.2.2.2.1, f.2.2.2.2.2.2.2.2.2.1, f.2.2.2.2.2.2.2.2.2.2.1, f.2.2.2.2.2.2.2.2.2.2.2.1, ())), ?_, ?_, (h.kT hk c1 c2).up (Nat.le_succ n), .Pc k hk rR ht⟩
   · simp only [Bool.not_false, cond_true]; rw [e2]; simp only [Option.bind_some]; rw [e3]; rfl
   · simp only [Bool.not_false, cond_true]; rw [i2]; rfl
 · simp only [Bool.not_true, cond_false]; generalize ht' : ((f.2.2.1, f.2.2.2.1, f.2.2.2.2.1, f.2.2.2.2.2.1, f.2.2.2.2.2.2.1, f.2.2.2.2.2.2.2.1, ()) : jG) = t; have H0 : (f.2.2.1, f.2.2.2.1, f.2.2.2.2.1, f.2.2.2.2.2.1, f.2.2.2.2.2.2.1, f.2.2.2.2.2.2.2.1, ()) = t := ht'; have hwt : t.2.2.2.2.2.1.length ≤ 1048576 := by rw [← H0]; exact hf
   cases hh : EA w.2.2.1[k] t
   · obtain ⟨i2, e2⟩ := KD w.2.2.1[k] t (Nat.le_trans hw (by decide)) hwt hh; subst H0; rw [e2, i2]; exact ⟨1, w, rfl, rfl, h.up (Nat.le_succ n), .no⟩
   · unfold EA at hh; simp only [Bool.and_eq_true, decide_eq_true_eq] at hh; have hT := (zN t hwt).2.2.1 hh.2.1; obtain ⟨m', said, j, nx, H, i2, e2⟩ := KC w.2.2.1[k] t hm hT hh.2.2.1 hh.2.2.2.1 hh.2.2.2.2; have hlen : said.length ≤ 63 := by
       rw [H.said, List.length_append, fV]; have := C2 t (w.2.2.1[k]).2.2.2.1; have := H.vK.1; omega
     have ZY : j ≤ said.length := by rw [H.said, List.length_append, fV]; omega
     have hs := h.said; have e3 := nO w (by omega) hk m'; have hW := h.kT hk H.nq H.id.1; have P1 := EI H hT H0; have PS := zf f said; have e4 := JT (nN w k m') f said nx (by show w.2.2.2.2.2.1.length ≤ _; omega) (by omega); generalize F4 : eB (nN w k m') f said = w2 at e4; have p1 : w2.2.2.1 = w.2.2.1.set k m' := by rw [← F4]; rfl
     have p2 : w2.2.2.2.1 = w.2.2.2.1 := by rw [← F4]; rfl
     have p3 : w2.2.1 = w.2.1 := by rw [← F4]; rfl
     have hW2 : ju (n + 1) w2 := by
       rw [← F4]; have hU := hW.up (Nat.le_succ n); have hsd : (w.2.2.2.2.2.1 ++ oH f said).length ≤ 1048576 + 63 * (n + 1) := by rw [List.length_append]; omega
       exact { ring := hU.ring, len := hU.len, ids := hU.ids, m8 := hU.m8, vK := hU.vK, oM := hU.oM, heard := hU.heard, list := hU.list, said := hsd }
     have Zr : w2.2.2.1.length ≤ 5 := by rw [p1, List.length_set]; exact q1
     have e5 := C6 w2 f.1 said Zr (by rw [p2]; omega) (by omega); have Pu := lM w2.2.2.1 f.1 5 Zr said; have hl6 : (w2.2.2.2.1 ++ dg w2.2.2.1 f.1 said).length ≤ w.2.2.2.1.length + 315 := by rw [List.length_append, p2]; omega
     have hnl : nx.2.2.2.2.2.1.length ≤ 1048576 := Nat.le_trans H.tq.2.2.2.2.2.1 (by decide); have e6 := zS (gu w2 (w2.2.2.2.1 ++ dg w2.2.2.1 f.1 said)) f.1 nx (by show w2.2.1.length ≤ _; rw [p3]; omega) (by show (w2.2.2.2.1 ++ dg w2.2.2.1 f.1 said).length ≤ _; omega) hnl; refine ⟨0, gu (gu w2 (w2.2.2.2.1 ++ dg w2.2.2.1 f.1 said)) ((w2.2.2.2.1 ++ dg w2.2.2.1 f.1 said) ++ [fD (iw w2.1 w2.2.1 f.1) nx]), ?_, ?_, hW2.uj (fun g hg => ?_) ?_, ?_⟩
     · subst H0; rw [e2]; simp only [Option.bind_some, Bool.not_true, cond_false]; rw [e3]; simp only [Option.bind_some]; have e4' := e4; simp only [e4, cg, Option.bind_some]; rw [show f.2.1 = true from ht] at e4; rw [e4]; simp only [Option.bind_some]; rw [e5]; simp only [Option.bind_some]; rw [e6]; rfl
     · have afl : m'.1 = f.1 := H.id.1.trans rR; have hd : List.drop (said.length - j) said = oH f said := P1.symm; have t1 := AQ (nN w k m') m'.1 said hW.len hW.ids q0 (by show w.2.2.2.1.length ≤ _; omega) (by omega); have t1 : dB w.1 w.2.1 (w.2.2.1.set k m') w.2.2.2.1 w.2.2.2.2.1 w.2.2.2.2.2.1 m'.1 said = some (w.1, w.2.1, w.2.2.1.set k m', w.2.2.2.1 ++ dg (w.2.2.1.set k m') m'.1 said, w.2.2.2.2.1, w.2.2.2.2.2.1, ()) := t1; have hl7 : (w.2.2.2.1 ++ dg (w.2.2.1.set k m') m'.1 said).length ≤ 2147483648 := by
         have := lM (w.2.2.1.set k m') m'.1 5 (by rw [List.length_set]; exact q1) said; rw [List.length_append]; omega
       have t2 := HT (gu (nN w k m') (w.2.2.2.1 ++ dg (w.2.2.1.set k m') m'.1 said)) m'.1 nx (by show w.2.1.length ≤ _; omega) hl7 hnl; have t2 : fh w.1 w.2.1 (w.2.2.1.set k m') (w.2.2.2.1 ++ dg (w.2.2.1.set k m') m'.1 said) w.2.2.2.2.1 w.2.2.2.2.2.1 m'.1 nx.1 nx.2.1 nx.2.2.1 nx.2.2.2.1 nx.2.2.2.2.1 nx.2.2.2.2.2.1 = some (w.1, w.2.1, w.2.2.1.set k m', (w.2.2.2.1 ++ dg (w.2.2.1.set k m') m'.1 said) ++ [fD (iw w.1 w.2.1 m'.1) nx], w.2.2.2.2.1, w.2.2.2.2.2.1, ()) := t2; have hwr : IntKind.i64.wrap (((said.length : Nat) : Int) - ((j : Nat) : Int)) = ((said.length - j : Nat) : Int) := by rw [fO] <;> omega
       subst H0; rw [i2]; have t1 : dB w.1 w.2.1 (w.2.2.1.set k (m'.1, m'.2.1, m'.2.2.1, m'.2.2.2.1, m'.2.2.2.2.1, m'.2.2.2.2.2.1, m'.2.2.2.2.2.2.1, m'.2.2.2.2.2.2.2.1, m'.2.2.2.2.2.2.2.2.1, m'.2.2.2.2.2.2.2.2.2.1, m'.2.2.2.2.2.2.2.2.2.2.1, m'.2.2.2.2.2.2.2.2.2.2.2.1, m'.2.2.2.2.2.2.2.2.2.2.2.2.1, m'.2.2.2.2.2.2.2.2.2.2.2.2.2.1, m'.2.2.2.2.2.2.2.2.2.2.2.2.2.2.1, m'.2.2.2.2.2.2.2.2.2.2.2.2.2.2.2.1, ())) w.2.2.2.1 w.2.2.2.2.1 w.2.2.2.2.2.1 m'.1 said = _ := t1; simp only [Option.bind_some, Bool.not_true, cond_false, t1, t2]; simp only [hwr, ak, cond_true, au, af (show ((said.length - j : Nat) : Int) ≤ ((said.length : Nat) : Int) by omega), hd, aF (show (w.2.2.2.2.2.1.length + (oH f said).length) * 40 ≤ lim by unfold lim; omega)]; rw [← F4, afl]; rfl
     · rcases List.mem_append.1 hg with hg | hg
       · rcases List.mem_append.1 hg with hg | hg
         · rw [p2] at hg; exact h.oM g hg
         · exact HU g hg
       · rw [List.mem_singleton] at hg; subst hg; exact hnl
     · rw [List.length_append, List.length_singleton]; omega
     · subst H0; rw [← F4]; exact .held k hk rR ht m' said j nx hT hh.2.2.2.1 H
theorem Pe (b : Bool) (d : Int) (s : ByteArray) : pa b d s = some (bif b then (decide (1 ≤ d) && decide (d ≤ 2)) && decide (((ByteArray.size s : Nat) : Int) ≤ 60) else decide (d = 0) && lX s (ByteArray.mk #[]), ()) := by
 unfold pa; simp only [vF, Option.bind_some]
 cases b
 · cases decide (d = 0) <;> rfl
 · cases (decide (1 ≤ d) && decide (d ≤ 2)) <;> rfl
theorem My {c : Int} {ms : cP} (hr : lK c ms) {e : lT} (he : A5 ms e) : qZ c ms e.1 e.2.1 e.2.2.1 e.2.2.2.1 e.2.2.2.2.1 = some (true, ()) := by
 have hl := hr.2.1.2; unfold qZ; simp only [rB, af he.kind.1, af he.kind.2, Bool.and_self, Option.bind_some, Bool.not_true, cond_false, Kz ms e.2.1 (by omega), af he.id, aj (show ¬ e.2.2.1 < 0 by have := he.at_; omega), (ld c ms (by omega)).2.1, (ld c ms (by omega)).2.2.2 hr, Pe]
 by_cases h1 : e.1 = 1
 · obtain ⟨⟨a1, a2⟩, a3⟩ := he.VH h1; rw [af h1, af a1, af a2, af (show ((ByteArray.size e.2.2.2.2.1 : Nat) : Int) ≤ 60 by omega)]; rfl
 · obtain ⟨a1, a2⟩ := he.no h1; rw [aj h1, af a1, a2]; show some (lX ByteArray.empty ByteArray.empty, ()) = _; rw [wQ]
theorem QP (xs : List lS) {k : Nat} (hk : k < xs.length) : Jk xs ((k : Nat) : Int) ((k + 1 : Nat) : Int) = some (xs.take k ++ xs.drop (k + 1), ()) := by
 unfold Jk; rw [af (show (0 : Int) ≤ ((k : Nat) : Int) by omega), af (show ((k + 1 : Nat) : Int) = ((k : Nat) : Int) + 1 by omega), af (show ((k : Nat) : Int) < ((List.length xs : Nat) : Int) by omega)]; rfl
theorem QQ {n : Nat} {w : bj} (h : ju n w) (hn : n ≤ 1000000) {e : lT} (he : A5 w.2.1 e) : ∃ a w', ij w.1 w.2.1 w.2.2.1 w.2.2.2.1 w.2.2.2.2.1 w.2.2.2.2.2.1 e.1 e.2.1 e.2.2.1 e.2.2.2.1 e.2.2.2.2.1 = some (a, w'.1, w'.2.1, w'.2.2.1, w'.2.2.2.1, w'.2.2.2.2.1, w'.2.2.2.2.2.1, ()) ∧ jb w.1 w.2.1 w.2.2.1 w.2.2.2.1 w.2.2.2.2.1 w.2.2.2.2.2.1 e.1 e.2.1 e.2.2.1 e.2.2.2.1 e.2.2.2.2.1 = some (a, w'.1, w'.2.1, w'.2.2.1, w'.2.2.2.1, w'.2.2.2.2.1, w'.2.2.2.2.2.1, ()) ∧ ju (n + 1) w' ∧ Step w e w' := by
 obtain ⟨q0, q1, q2⟩ := h.A4; have QK := h.vK; obtain ⟨a, e1, i1, hq⟩ := KK h e.2.1; have hq : ∃ k, ∃ hk : k < w.2.2.1.length, a = ((k : Nat) : Int) ∧ (w.2.2.1[k]).1 = e.2.1 := by
   rcases hq with ⟨_, g⟩ | g
   · obtain ⟨j, hj, ej⟩ := List.mem_iff_getElem.1 he.id; have Ha : j < w.2.2.1.length := by rw [h.len]; exact hj
     exact absurd ((h.ids j Ha hj).trans (congrArg Prod.fst ej)) (g j Ha)
   · exact g
 obtain ⟨k, hk, rfl, rR⟩ := hq; have hm := h.m8 _ (List.getElem_mem hk); unfold ij jb; simp only [e1, i1, Option.bind_some]
 by_cases k1 : e.1 = 1
 · obtain ⟨a1, a2⟩ := he.VH k1; obtain ⟨e2, i2⟩ := HK w.2.2.1[k] e.2.2.2.1 e.2.2.2.2.1 (Nat.le_trans hm.small (by decide)); simp only [af k1, cond_true, ak, au, fH hk, List.getElem?_eq_getElem hk, Option.bind_some]; rw [e2, i2]; simp only [Option.bind_some]
   cases hb : (iq w.2.2.1[k] e.2.2.2.1 e.2.2.2.2.1).2
   · exact ⟨1, w, rfl, rfl, h.up (Nat.le_succ n), .same⟩
   · have FT : HJ w.2.2.1[k] e.2.2.2.1 e.2.2.2.2.1 = true := by
       unfold iq at hb
       cases VU : HJ w.2.2.1[k] e.2.2.2.1 e.2.2.2.2.1
       · rw [VU] at hb; cases hb
       · rfl
     have hs : (iq w.2.2.1[k] e.2.2.2.1 e.2.2.2.2.1).1 = zc w.2.2.1[k] e.2.2.2.1 e.2.2.2.2.1 := by unfold iq; rw [FT]; rfl
     unfold HJ at FT; simp only [Bool.and_eq_true, decide_eq_true_eq] at FT; have e3 := nO w (by omega) hk (zc w.2.2.1[k] e.2.2.2.1 e.2.2.2.2.1); rw [hs]; simp only [Bool.not_true, cond_false]; rw [e3]; exact ⟨0, _, rfl, rfl, (h.kT hk (KE hm a1 a2 FT.2.2.2) rfl).up (Nat.le_succ n), .VH k hk rR k1⟩
 by_cases k7 : e.1 = 7
 · obtain ⟨w', e2, i2, hw⟩ := Mw e h hn hk; simp only [aj k1, af k7, cond_true, cond_false]; rw [e2, i2]; exact ⟨0, w', rfl, rfl, hw⟩
 by_cases k6 : e.1 = 6
 · obtain ⟨b, w', e2, i2, hw⟩ := JS e h hn hk; simp only [aj k1, aj k7, af k6, cond_true, cond_false]; rw [e2, i2]; exact ⟨b, w', rfl, rfl, hw⟩
 simp only [aj k1, aj k7, aj k6, cond_false]; unfold la
 by_cases h0 : w.2.2.2.1.length = 0
 · rw [af (show ((List.length w.2.2.2.1 : Nat) : Int) = 0 by omega)]; exact ⟨1, w, rfl, rfl, h.up (Nat.le_succ n), .same⟩
 obtain ⟨i, hi⟩ := Int.eq_ofNat_of_zero_le he.at_; have bX : i % w.2.2.2.1.length < w.2.2.2.1.length := Nat.mod_lt _ (by omega); generalize hj : i % w.2.2.2.1.length = j at bX; have et : Int.tmod e.2.2.1 ((List.length w.2.2.2.1 : Nat) : Int) = ((j : Nat) : Int) := by rw [hi, ← hj]; exact vZ _ _
 have hF := h.oM _ (List.getElem_mem bX); simp only [aj (show ¬ ((List.length w.2.2.2.1 : Nat) : Int) = 0 by omega), cond_false, et, ak, au, fH bX, List.getElem?_eq_getElem bX, Option.bind_some, cond_true]
 by_cases k5 : e.1 = 5
 · simp only [af k5, cond_true, aF (show (0 + w.2.2.2.1.length) * 120 ≤ lim by unfold lim; omega), List.nil_append, aF (show (w.2.2.2.1.length + 1) * 120 ≤ lim by unfold lim; omega), tv, (fU (w.2.2.2.1[j]).2.2.1 (w.2.2.2.1[j]).2.2.2.1 (w.2.2.2.1[j]).2.2.2.2.1 (w.2.2.2.1[j]).2.2.2.2.2.1 (w.2.2.2.1[j]).2.2.2.2.2.2.1 (w.2.2.2.1[j]).2.2.2.2.2.2.2.1 hF).2, Option.bind_some]; refine ⟨0, gu w (w.2.2.2.1 ++ [w.2.2.2.1[j]]), rfl, rfl, (h.up (Nat.le_succ n)).uj (fun f hf => ?_) ?_, .dup j bX⟩
   · rcases List.mem_append.1 hf with hf | hf
     · exact h.oM f hf
     · rw [List.mem_singleton] at hf; subst hf; exact hF
   · rw [List.length_append, List.length_singleton]; omega
 have Lf : (List.take j w.2.2.2.1).length ≤ w.2.2.2.1.length := by rw [List.length_take]; omega
 have PS : (List.drop (j + 1) w.2.2.2.1).length ≤ w.2.2.2.1.length := by rw [List.length_drop]; omega
 have hW : ju n (gu w (List.take j w.2.2.2.1 ++ List.drop (j + 1) w.2.2.2.1)) := h.uj (fun f hf => by
   rcases List.mem_append.1 hf with hf | hf
   · exact h.oM f (List.mem_of_mem_take hf)
   · exact h.oM f (List.mem_of_mem_drop hf)) (by rw [List.length_append, List.length_take, List.length_drop]; omega)
 obtain ⟨b, w', e2, i2, hw⟩ := Mx hW hn w.2.2.2.1[j] hF; have e2 : cN w.1 w.2.1 w.2.2.1 (List.take j w.2.2.2.1 ++ List.drop (j + 1) w.2.2.2.1) w.2.2.2.2.1 w.2.2.2.2.2.1 (w.2.2.2.1[j]).1 (w.2.2.2.1[j]).2.1 (w.2.2.2.1[j]).2.2.1 (w.2.2.2.1[j]).2.2.2.1 (w.2.2.2.1[j]).2.2.2.2.1 (w.2.2.2.1[j]).2.2.2.2.2.1 (w.2.2.2.1[j]).2.2.2.2.2.2.1 (w.2.2.2.1[j]).2.2.2.2.2.2.2.1 (w.2.2.2.1[j]).2.2.2.2.2.2.2.2.1 (w.2.2.2.1[j]).2.2.2.2.2.2.2.2.2.1 (w.2.2.2.1[j]).2.2.2.2.2.2.2.2.2.2.1 (w.2.2.2.1[j]).2.2.2.2.2.2.2.2.2.2.2.1 = some (b, w'.1, w'.2.1, w'.2.2.1, w'.2.2.2.1, w'.2.2.2.2.1, w'.2.2.2.2.2.1, ()) := e2; have i2 : fj w.1 w.2.1 w.2.2.1 (List.take j w.2.2.2.1 ++ List.drop (j + 1) w.2.2.2.1) w.2.2.2.2.1 w.2.2.2.2.2.1 (w.2.2.2.1[j]).1 (w.2.2.2.1[j]).2.1 (w.2.2.2.1[j]).2.2.1 (w.2.2.2.1[j]).2.2.2.1 (w.2.2.2.1[j]).2.2.2.2.1 (w.2.2.2.1[j]).2.2.2.2.2.1 (w.2.2.2.1[j]).2.2.2.2.2.2.1 (w.2.2.2.1[j]).2.2.2.2.2.2.2.1 (w.2.2.2.1[j]).2.2.2.2.2.2.2.2.1 (w.2.2.2.1[j]).2.2.2.2.2.2.2.2.2.1 (w.2.2.2.1[j]).2.2.2.2.2.2.2.2.2.2.1 (w.2.2.2.1[j]).2.2.2.2.2.2.2.2.2.2.2.1 = some (b, w'.1, w'.2.1, w'.2.2.1, w'.2.2.2.1, w'.2.2.2.2.1, w'.2.2.2.2.2.1, ()) := i2; simp only [aj k5, cond_false, af (show ((j : Nat) : Int) ≤ ((List.length w.2.2.2.1 : Nat) : Int) by omega), cond_true, List.drop_zero, List.nil_append, aG (show j < 4611686018427387904 by omega), ak, au, QP _ bX, Option.bind_some,
   af (show (((j + 1 : Nat)) : Int) ≤ ((List.length w.2.2.2.1 : Nat) : Int) by omega), aF (show (0 + (List.take j w.2.2.2.1).length) * 120 ≤ lim by unfold lim; omega), aF (show ((List.take j w.2.2.2.1).length + (List.drop (j + 1) w.2.2.2.1).length) * 120 ≤ lim by unfold lim; omega), cC]
 by_cases k4 : e.1 = 4
 · rw [af k4]; exact ⟨0, _, rfl, rfl, hW.up (Nat.le_succ n), .drop j bX⟩
 · rw [aj k4, e2, i2]; exact ⟨b, w', rfl, rfl, hw.1, .Zv j bX w' hw.2⟩
end Go.TM
set_option linter.unusedSimpArgs false
set_option linter.unusedVariables false
namespace Go.TM
open Go
theorem EJ {X E : Type} {round : X → Option (Sum X E)} {s s' : X} {x : E} (h : round s = some (.inl s')) (hx : aE round s' = some x) : aE round s = some x := by
 rw [gP, h]; exact hx
theorem EK {X E : Type} {round : X → Option (Sum X E)} {s : X} {x : E} (h : round s = some (.inr x)) : aE round s = some x := by
 rw [gP, h]
theorem zh {c : Int} {ms : cP} (hr : lK c ms) : fT c ms = some ((cQ c ms (ms[0]'hr.2.1.1).1).1, (cQ c ms (ms[0]'hr.2.1.1).1).2.1, (cQ c ms (ms[0]'hr.2.1.1).1).2.2.1, (cQ c ms (ms[0]'hr.2.1.1).1).2.2.2.1, (cQ c ms (ms[0]'hr.2.1.1).1).2.2.2.2.1, (cQ c ms (ms[0]'hr.2.1.1).1).2.2.2.2.2.1, true, ()) := by
 have hl := hr.2.1.2; have Lf := hr.2.1.1; have h : ms.length ≤ 1048576 := by omega
 have r1 := (ld c ms h).2.1; rw [(ld c ms h).2.2.2 hr] at r1; have l1 := cX (round := fB) (e := .inl (c, ms, (0 : Int), [], [], [], [], [], c, ms, ms.map fun m => lf c ms m.1, [], List.replicate ms.length ([], ()), [], ())) ms.length (fun k => (c, ms, (0 : Int), [], [], [], [], [], c, ms, (ms.take k).map fun m => lf c ms m.1, [], List.replicate ms.length ([], ()), [], ms, ((List.length ms : Nat) : Int), ((k : Nat) : Int), ())) (by
   simp only [fB, oe, aD, cond_false, List.take_length]) (fun k hk => by
   simp only [fB, oe, ax hk, ak, cond_true, au, List.getElem?_eq_getElem hk, Option.bind_some, FO c ms ms[k].1 h r1 (List.getElem_mem hk), List.length_map, List.length_take, Nat.min_eq_left (Nat.le_of_lt hk), aF (show (k + 1) * 208 ≤ lim by unfold lim; omega), aG (show k < 4611686018427387904 by omega)]; rw [map_take _ _ hk]; rfl)
 have l1 : aE fB (c, ms, (0 : Int), [], [], [], [], [], c, ms, [], [], List.replicate ms.length ([], ()), [], ms, ((List.length ms : Nat) : Int), (0 : Int), ()) = _ := l1; have hf : jj c ms = some (c, 1, 0, 0, 0, [], ()) := by unfold jj; rw [r1]; rfl
 unfold fT; simp only [r1, Option.bind_some, Bool.not_true, cond_false, cond_true, DK c ms h, af rfl, ak, au, aF (show ms.length * 24 ≤ lim by unfold lim; omega), cC, l1, cg, List.getElem?_eq_getElem (show 0 < ms.length by omega), hf]; rfl
theorem Pf {c : Int} {ms : cP} (hr : lK c ms) (di : List lT) (hl : di.length ≤ 89) (he : ∀ e ∈ di, A5 ms e) (P : bj → Prop) (h0 : P (cQ c ms (ms[0]'hr.2.1.1).1))
   (hs : ∀ n w w' e, n < di.length → e ∈ di → ea n c ms w → ea (n + 1) c ms w' → P w → Step w e w' → P w') :
   ∃ (w : bj) (kG : cP), mr c ms di = some (w.1, w.2.1, w.2.2.1, w.2.2.2.1, w.2.2.2.2.1, w.2.2.2.2.2.1, kG, true, ()) ∧ tN c ms di = some (w.1, w.2.1, w.2.2.1, w.2.2.2.1, w.2.2.2.2.1, w.2.2.2.2.2.1, kG, true, ()) ∧ kG.length = di.length ∧ ea di.length c ms w ∧ P w := by
 generalize hw0 : cQ c ms (ms[0]'hr.2.1.1).1 = w0 at h0; have hW0 : ea 0 c ms w0 := by rw [← hw0]; exact Da hr _
 have e0 : fQ c ms = some (w0.1, w0.2.1, w0.2.2.1, w0.2.2.2.1, w0.2.2.2.2.1, w0.2.2.2.2.2.1, true, ()) := by rw [← hw0]; exact AO hr
 have i0 : fT c ms = some (w0.1, w0.2.1, w0.2.2.1, w0.2.2.2.1, w0.2.2.2.2.1, w0.2.2.2.2.2.1, true, ()) := by rw [← hw0]; exact zh hr
 have l1 := cX (round := jr) (e := .inl (di, (0 : Int), [], [], [], [], [], w0.1, w0.2.1, w0.2.2.1, w0.2.2.2.1, w0.2.2.2.2.1, w0.2.2.2.2.2.1, true, ())) di.length (fun k => (di, c, ms, (0 : Int), [], [], [], [], [], w0.1, w0.2.1, w0.2.2.1, w0.2.2.2.1, w0.2.2.2.2.1, w0.2.2.2.2.2.1, true, ((k : Nat) : Int), ())) (by
   simp only [jr, oB, aD, cond_false]) (fun k hk => by
   simp only [jr, oB, ax hk, cond_true, af (show ((List.length di : Nat) : Int) ≤ 90 by omega), ak, au, List.getElem?_eq_getElem hk, Option.bind_some, kV hr (he _ (List.getElem_mem hk)), aG (show k < 4611686018427387904 by omega)])
 have l1 : aE jr (di, c, ms, (0 : Int), [], [], [], [], [], w0.1, w0.2.1, w0.2.2.1, w0.2.2.2.1, w0.2.2.2.2.1, w0.2.2.2.2.2.1, true, (0 : Int), ()) = _ := l1; have m1 := cX (round := gK) (e := .inl (di, c, ms, (0 : Int), [], [], [], [], [], ())) di.length (fun k => (di, c, ms, (0 : Int), [], [], [], [], [], di, ((List.length di : Nat) : Int), ((k : Nat) : Int), ())) (by
   simp only [gK, oq, aD, cond_false]) (fun k hk => by
   simp only [gK, oq, ax hk, cond_true, ak, au, List.getElem?_eq_getElem hk, Option.bind_some, My hr (he _ (List.getElem_mem hk)), aG (show k < 4611686018427387904 by omega), Bool.not_true, cond_false])
 have m1 : aE gK (di, c, ms, (0 : Int), [], [], [], [], [], di, ((List.length di : Nat) : Int), (0 : Int), ()) = _ := m1; have key : ∀ k, k ≤ di.length → ∃ (w : bj) (kG : cP), kG.length = k ∧ ea k c ms w ∧ P w ∧
     (∀ x, aE js (di, (0 : Int), [], [], [], [], [], w.1, w.2.1, w.2.2.1, w.2.2.2.1, w.2.2.2.2.1, w.2.2.2.2.2.1, kG, ((k : Nat) : Int), ()) = some x → aE js (di, (0 : Int), [], [], [], [], [], w0.1, w0.2.1, w0.2.2.1, w0.2.2.2.1, w0.2.2.2.2.1, w0.2.2.2.2.2.1, [], (0 : Int), ()) = some x) ∧
     (∀ x, aE gL ((0 : Int), [], [], [], [], [], w.1, w.2.1, w.2.2.1, w.2.2.2.1, w.2.2.2.2.1, w.2.2.2.2.2.1, kG, di, ((List.length di : Nat) : Int), ((k : Nat) : Int), ()) = some x → aE gL ((0 : Int), [], [], [], [], [], w0.1, w0.2.1, w0.2.2.1, w0.2.2.2.1, w0.2.2.2.2.1, w0.2.2.2.2.2.1, [], di, ((List.length di : Nat) : Int), (0 : Int), ()) = some x) := by
   intro k
   induction k with
   | zero => exact fun _ => ⟨w0, [], rfl, hW0, h0, fun x h => h, fun x h => h⟩
   | succ k ih =>
     intro hk; obtain ⟨w, kG, q, hw, hp, g1, g2⟩ := ih (by omega); have hk : k < di.length := hk; obtain ⟨b, w', e1, VS, AU⟩ := KI hw (by omega) (he _ (List.getElem_mem hk)); have hm : A5 w.2.1 di[k] := by rw [hw.self.2]; exact he _ (List.getElem_mem hk)
     obtain ⟨b2, w2, e2, e3, _, po⟩ := QQ hw.x (by omega) hm; have e4 : some (b, w') = some (b2, w2) := e1.symm.trans e2; injection e4 with e4; injection e4 with e4 e5; subst e4 e5; refine ⟨w', kG ++ [(b, ())], by rw [List.length_append, q]; rfl, VS, hs k w w' di[k] hk (List.getElem_mem hk) hw VS hp po, fun x hx => g1 x ?_, fun x hx => g2 x ?_⟩
     · refine EJ (s' := (di, (0 : Int), [], [], [], [], [], w'.1, w'.2.1, w'.2.2.1, w'.2.2.2.1, w'.2.2.2.2.1, w'.2.2.2.2.2.1, kG ++ [(b, ())], ((k + 1 : Nat) : Int), ())) ?_ hx; simp only [js, oC, ax hk, cond_true, ak, au, List.getElem?_eq_getElem hk, Option.bind_some, e1, aF (show (kG.length + 1) * 8 ≤ lim by rw [q]; unfold lim; omega), aG (show k < 4611686018427387904 by omega)]
     · refine EJ (s' := ((0 : Int), [], [], [], [], [], w'.1, w'.2.1, w'.2.2.1, w'.2.2.2.1, w'.2.2.2.2.1, w'.2.2.2.2.2.1, kG ++ [(b, ())], di, ((List.length di : Nat) : Int), ((k + 1 : Nat) : Int), ())) ?_ hx; simp only [gL, ot, ax hk, cond_true, ak, au, List.getElem?_eq_getElem hk, Option.bind_some, e3, aF (show (kG.length + 1) * 8 ≤ lim by rw [q]; unfold lim; omega), aG (show k < 4611686018427387904 by omega)]
 obtain ⟨w, kG, q, hw, hp, g1, g2⟩ := key _ (Nat.le_refl _); have l2 := g1 (.inl ((0 : Int), [], [], [], [], [], w.1, w.2.1, w.2.2.1, w.2.2.2.1, w.2.2.2.2.1, w.2.2.2.2.2.1, kG, ())) (EK (by simp only [js, oC, aD, cond_false])); have m2 := g2 (.inl ((0 : Int), [], [], [], [], [], w.1, w.2.1, w.2.2.1, w.2.2.2.1, w.2.2.2.2.1, w.2.2.2.2.2.1, kG, ())) (EK (by simp only [gL, ot, aD, cond_false])); refine ⟨w, kG, ?_, ?_, q, hw, hp⟩
 · unfold mr; simp only [aj (show ¬ (90 : Int) < ((List.length di : Nat) : Int) by omega), cond_false, m1, cg, i0, Option.bind_some, Bool.not_true, m2]
 · unfold tN; simp only [e0, Option.bind_some, l1, cg, Bool.not_true, cond_false, l2, O8 hw (by omega)]
end Go.TM
set_option linter.unusedSimpArgs false
set_option linter.unusedVariables false
namespace Go.TM
open Go
def Db (di : List lT) (id MK : Int) (text : ByteArray) : Prop := ∃ e ∈ di, e.1 = 1 ∧ e.2.1 = id ∧ e.2.2.2.1 = MK ∧ e.2.2.2.2.1 = text
def gV (di : List lT) (m : cK) : Prop := ∀ i (h : i < m.2.2.2.2.2.1.length) (h2 : i < m.2.2.2.2.1.length), Db di m.1 (m.2.2.2.2.1[i]).1 (m.2.2.2.2.2.1[i]).1
structure JU (di : List lT) (ms : cP) (w : bj) : Prop where
 num : ∀ i (hi : i < w.2.2.2.2.2.1.length), (w.2.2.2.2.2.1[i]).1 = ((i + 1 : Nat) : Int)
 QR : ∃ R, qL R ((w.2.2.2.2.2.1.length : Nat) : Int) ms w
 texts : ∀ m ∈ w.2.2.1, gV di m
 from_ : ∀ x ∈ w.2.2.2.2.2.1, Db di x.2.1 x.2.2.1 x.2.2.2.1
theorem v7 {di : List lT} {l : List cK} (k : Nat) (m : cK) (h : ∀ m ∈ l, gV di m) (hm : gV di m) : ∀ x ∈ l.set k m, gV di x := fun x hx => by
 rcases List.mem_or_eq_of_mem_set hx with hx | rfl
 · exact h x hx
 · exact hm
theorem gV.same {di : List lT} {m m' : cK} (h : gV di m) (h1 : m'.1 = m.1) (h2 : m'.2.2.2.2.1 = m.2.2.2.2.1) (h3 : m'.2.2.2.2.2.1 = m.2.2.2.2.2.1) : gV di m' := by
 intro i a b; simp only [h1, h2, h3] at a b ⊢; exact h i a b
theorem Mz {di : List lT} {m : cK} {e : lT} (he : e ∈ di) (h1 : e.1 = 1) (rR : m.1 = e.2.1) (hl : m.2.2.2.2.1.length = m.2.2.2.2.2.1.length) (h : gV di m) : gV di (zc m e.2.2.2.1 e.2.2.2.2.1) := by
 intro i h2 h3; have h2 : i < (m.2.2.2.2.2.1 ++ [(e.2.2.2.2.1, ())]).length := h2; have h3 : i < (m.2.2.2.2.1 ++ [(e.2.2.2.1, ())]).length := h3; show Db di m.1 ((m.2.2.2.2.1 ++ [(e.2.2.2.1, ())])[i]).1 ((m.2.2.2.2.2.1 ++ [(e.2.2.2.2.1, ())])[i]).1; rw [List.length_append, List.length_singleton] at h2 h3
 by_cases g : i < m.2.2.2.2.2.1.length
 · rw [List.getElem_append_left g, List.getElem_append_left (by omega)]; exact h i g (by omega)
 · have e1 : i = m.2.2.2.2.2.1.length := by omega
   subst e1; rw [List.getElem_append_right (Nat.le_refl _), List.getElem_append_right (by omega)]; simp only [hl, Nat.sub_self, List.getElem_cons_zero]; exact ⟨e, he, h1, rR.symm, rfl, rfl⟩
theorem JV {di : List lT} {m m' : cK} {t nx : jG} {said : aK} {j : Nat} (H : Mn m t m' said j nx) (h : gV di m) : gV di m' := by
 intro i h2 h3; obtain ⟨e1, e2⟩ := H.words; simp only [e1, e2, H.id.1] at h2 h3 ⊢; rw [List.length_drop] at h2 h3; rw [List.getElem_drop, List.getElem_drop]; exact h (j + i) (by omega) (by omega)
theorem MA {di : List lT} {m : cK} (hm : oE m) (h : gV di m) {s : Int} {i : Nat} (hi : i < m.2.2.2.2.2.1.length) : Db di (ph s m.1 m.2.2.2.2.1 m.2.2.2.2.2.1 i).2.1 (ph s m.1 m.2.2.2.2.1 m.2.2.2.2.2.1 i).2.2.1 (ph s m.1 m.2.2.2.2.1 m.2.2.2.2.2.1 i).2.2.2.1 := by
 have hl := hm.texts.2; have h2 : i < m.2.2.2.2.1.length := by omega
 obtain ⟨e, he, e1, e2, e3, e4⟩ := h i hi h2; have hv := hm.MK i h2 h2; simp only [Bool.and_eq_true, decide_eq_true_eq] at hv; refine ⟨e, he, e1, e2, ?_, ?_⟩
 · rw [e3]; show _ = (bif decide (i < m.2.2.2.2.1.length) && decide ((m.2.2.2.2.1.getD i ((0 : Int), ())).1 = 2) then 2 else 1); rw [List.getD_eq_getElem?_getD, List.getElem?_eq_getElem h2, Option.getD_some, decide_eq_true h2, Bool.true_and]
   by_cases g : (m.2.2.2.2.1[i]).1 = 2
   · rw [decide_eq_true g, g]; rfl
   · rw [decide_eq_false g]; show _ = (1 : Int); omega
 · rw [e4]; show _ = (m.2.2.2.2.2.1.getD i (ByteArray.empty, ())).1; rw [List.getD_eq_getElem?_getD, List.getElem?_eq_getElem hi, Option.getD_some]
theorem JW {m : cK} {f : lS} {m' : cK} {said : aK} {j : Nat} {nx : jG} (H : Mn m (f.2.2.1, f.2.2.2.1, f.2.2.2.2.1, f.2.2.2.2.2.1, f.2.2.2.2.2.2.1, f.2.2.2.2.2.2.2.1, ()) m' said j nx) (hT : yX (f.2.2.1, f.2.2.2.1, f.2.2.2.2.1, f.2.2.2.2.2.1, f.2.2.2.2.2.2.1, f.2.2.2.2.2.2.2.1, ())) : oH f said = de f.2.2.2.2.1 m.1 m.2.2.2.2.1 m.2.2.2.2.2.1 j := by
 rw [EI H hT rfl, H.said, List.length_append, fV, Nat.add_sub_cancel, List.drop_left]
theorem MB {di : List lT} {n R : Nat} {c : Int} {ms : cP} {w w' : bj} {f : lS} (hW : ea n c ms w) (h : JU di ms w) (hR : qL R ((w.2.2.2.2.2.1.length : Nat) : Int) ms w) (hN : C9 R ((w.2.2.2.2.2.1.length : Nat) : Int) ms f) (hf : Mo f) (hc : Came w f w') : JU di ms w' := by
 cases hc with
 | no => exact h
 | Pc k hk rR ht =>
   have hx := hf.item ht; have hm := (hW.m8 _ (List.getElem_mem hk)).1; rw [zT hm hx]; exact
   { num := h.num
     QR := ⟨R, hR.ED hk (EF (hR.kT k hk) (hN.item ht))⟩
     texts := v7 k _ h.texts ((h.texts _ (List.getElem_mem hk)).same rfl rfl rfl)
     from_ := h.from_ }
 | held k hk rR ht m' said j nx hT hr H =>
   have hm := (hW.m8 _ (List.getElem_mem hk)).1; have hq := HO hW hR hN ht hk rR rfl H hr rfl; have hn := JW H hT; obtain ⟨_, _, _, r4⟩ := EG hW hR hN ht hk rR hr; rw [r4] at hn; have hs : (KM w k f m' said nx).2.2.2.2.2.1 = w.2.2.2.2.2.1 ++ oH f said := rfl; have hl : (KM w k f m' said nx).2.2.2.2.2.1.length = w.2.2.2.2.2.1.length + j := by rw [hs, hn, List.length_append, fV]
   have hj := H.vK.2.1; refine ⟨fun i hi => ?_, ⟨R + 1, ?_⟩, ?_, fun x hx => ?_⟩
   · have Ve := hi; rw [hl] at Ve; have e0 : (KM w k f m' said nx).2.2.2.2.2.1[i] = (w.2.2.2.2.2.1 ++ oH f said)[i]'(by rw [← hs]; exact hi) := rfl; rw [e0]
     by_cases g : i < w.2.2.2.2.2.1.length
     · rw [List.getElem_append_left g]; exact h.num i g
     · rw [List.getElem_append_right (by omega)]; simp only [hn]; rw [zd]; show ((w.2.2.2.2.2.1.length : Nat) : Int) + ((i - w.2.2.2.2.2.1.length + 1 : Nat) : Int) = _; omega
   · rw [hl, Int.natCast_add]; exact hq
   · exact v7 k m' h.texts (JV H (h.texts _ (List.getElem_mem hk)))
   · rw [hs] at hx; rcases List.mem_append.1 hx with hx | hx
     · exact h.from_ x hx
     · rw [hn] at hx; obtain ⟨i, hi, rfl⟩ := pk hx; exact MA hm (h.texts _ (List.getElem_mem hk)) (by omega)
theorem JX {R : Nat} {S : Int} {len k : Nat} {m : cK} (h : sm R S len k m) (v : Int) : sm R S len k (sk m v) := h.same rfl rfl rfl
theorem HV {di : List lT} {m : cK} (h : gV di m) (v : Int) : gV di (sk m v) := h.same rfl rfl rfl
theorem MC {di : List lT} {n : Nat} {c : Int} {ms : cP} {w w' : bj} {e : lT} (he : e ∈ di) (hW : ea n c ms w) (h : JU di ms w) (hs : Step w e w') : JU di ms w' := by
 obtain ⟨R, hR⟩ := h.QR
 cases hs with
 | same => exact h
 | VH k hk rR h1 =>
   have hm := (hW.m8 _ (List.getElem_mem hk)).1; exact
   { num := h.num
     QR := ⟨R, hR.ED hk ((hR.kT k hk).same rfl rfl rfl)⟩
     texts := v7 k (zc w.2.2.1[k] e.2.2.2.1 e.2.2.2.2.1) h.texts (Mz he h1 rR hm.texts.2 (h.texts _ (List.getElem_mem hk)))
     from_ := h.from_ }
 | Zu k hk mL j hj hw =>
   have h4 := hR.ED hk (JX (hR.kT k hk) ((w.2.2.1[k]).2.2.2.2.2.2.2.2.2.1 + ((j : Nat) : Int))); have h5 := v7 k _ h.texts (HV (h.texts _ (List.getElem_mem hk)) ((w.2.2.1[k]).2.2.2.2.2.2.2.2.2.1 + ((j : Nat) : Int))); exact { num := h.num, QR := ⟨R, { uc := h4.uc, kT := h4.kT, said := h4.said }⟩, texts := h5, from_ := h.from_ }
 | again k hk hb => exact { num := h.num, QR := ⟨R, EE hW hR hk hb⟩, texts := h.texts, from_ := h.from_ }
 | dup j hj =>
   refine { num := h.num, QR := ⟨R, hR.uj fun f hf => ?_⟩, texts := h.texts, from_ := h.from_ }; rcases List.mem_append.1 hf with hf | hf
   · exact hR.uc f hf
   · rw [List.mem_singleton] at hf; subst hf; exact hR.uc _ (List.getElem_mem hj)
 | drop j hj =>
   refine { num := h.num, QR := ⟨R, hR.uj fun f hf => ?_⟩, texts := h.texts, from_ := h.from_ }; rcases List.mem_append.1 hf with hf | hf
   · exact hR.uc f (List.mem_of_mem_take hf)
   · exact hR.uc f (List.mem_of_mem_drop hf)
 | Zv j hj w' hc =>
   have QK := hW.vK; have CL : ea n c ms (gu w (List.take j w.2.2.2.1 ++ List.drop (j + 1) w.2.2.2.1)) := hW.uj (fun f hf => by
     rcases List.mem_append.1 hf with hf | hf
     · exact hW.uc f (List.mem_of_mem_take hf)
     · exact hW.uc f (List.mem_of_mem_drop hf)) (by rw [List.length_append, List.length_take, List.length_drop]; omega)
   have VV : qL R ((w.2.2.2.2.2.1.length : Nat) : Int) ms (gu w (List.take j w.2.2.2.1 ++ List.drop (j + 1) w.2.2.2.1)) := hR.uj fun f hf => by
     rcases List.mem_append.1 hf with hf | hf
     · exact hR.uc f (List.mem_of_mem_take hf)
     · exact hR.uc f (List.mem_of_mem_drop hf)
   exact MB CL { num := h.num, QR := ⟨R, VV⟩, texts := h.texts, from_ := h.from_ } VV (hR.uc _ (List.getElem_mem hj)) (hW.uc _ (List.getElem_mem hj)) hc
theorem Pg {c : Int} {ms : cP} (hr : lK c ms) (di : List lT) : JU di ms (cQ c ms (ms[0]'hr.2.1.1).1) := {
 num := fun i hi => by cases hi
 QR := ⟨1, HQ hr⟩
 texts := fun m hm => by
   have hm : m ∈ ms.map fun m => lf c ms m.1 := hm
   obtain ⟨x, hx, rfl⟩ := List.mem_map.1 hm; exact fun i hi => by cases hi
 from_ := fun x hx => by cases hx }
theorem Ph {c : Int} {ms : cP} (hr : lK c ms) (di : List lT) (hl : di.length ≤ 89) (he : ∀ e ∈ di, A5 ms e) :
   ∃ (w : bj) (kG : cP), mr c ms di = some (w.1, w.2.1, w.2.2.1, w.2.2.2.1, w.2.2.2.2.1, w.2.2.2.2.2.1, kG, true, ()) ∧ tN c ms di = some (w.1, w.2.1, w.2.2.1, w.2.2.2.1, w.2.2.2.2.1, w.2.2.2.2.2.1, kG, true, ()) ∧ kG.length = di.length ∧ ea di.length c ms w ∧ JU di ms w :=
 Pf hr di hl he (JU di ms) (Pg hr di) fun n w w' e _ h1 h2 _ h4 h5 => MC h1 h2 h4 h5
end Go.TM
set_option linter.unusedSimpArgs false
set_option linter.unusedVariables false
namespace Go.TM
open Go
theorem FW (c : Int) (ms : cP) (di : List lT) (w : bj) (i : Int) (x : cH) (hx : Db di x.2.1 x.2.2.1 x.2.2.2.1) (hl : di.length ≤ 1000) :
   aE dO (c, ms, di, w.1, w.2.1, w.2.2.1, w.2.2.2.1, w.2.2.2.2.1, w.2.2.2.2.2.1, i, x.1, x.2.1, x.2.2.1, x.2.2.2.1, false, (0 : Int), ()) = some (.inl (c, ms, di, w.1, w.2.1, w.2.2.1, w.2.2.2.1, w.2.2.2.2.1, w.2.2.2.2.2.1, i, x.1, x.2.1, x.2.2.1, x.2.2.2.1, true, ())) := by
 obtain ⟨e, he, Pj, rfl, hq⟩ := ev (round := dO) (x := (c, ms, di, w.1, w.2.1, w.2.2.1, w.2.2.2.1, w.2.2.2.2.1, w.2.2.2.2.2.1, i, x.1, x.2.1, x.2.2.1, x.2.2.2.1, false, ((0 : Nat) : Int), ())) di.length
   (fun k y => ∃ Pj : Bool, y = (c, ms, di, w.1, w.2.1, w.2.2.1, w.2.2.2.1, w.2.2.2.2.1, w.2.2.2.2.2.1, i, x.1, x.2.1, x.2.2.1, x.2.2.2.1, Pj, ((k : Nat) : Int), ()) ∧ ∀ j (hj : j < di.length), j < k → (di[j].1 = 1 ∧ di[j].2.1 = x.2.1 ∧ di[j].2.2.2.1 = x.2.2.1 ∧ di[j].2.2.2.2.1 = x.2.2.2.1) → Pj = true)
   (fun e => ∃ Pj : Bool, e = .inl (c, ms, di, w.1, w.2.1, w.2.2.1, w.2.2.2.1, w.2.2.2.2.1, w.2.2.2.2.2.1, i, x.1, x.2.1, x.2.2.1, x.2.2.2.1, Pj, ()) ∧ ∀ j (hj : j < di.length), (di[j].1 = 1 ∧ di[j].2.1 = x.2.1 ∧ di[j].2.2.2.1 = x.2.2.1 ∧ di[j].2.2.2.2.1 = x.2.2.2.1) → Pj = true) (by
     rintro y ⟨Pj, rfl, g⟩
     exact ⟨_, by simp only [dO, lA, aD, cond_false], Pj, rfl, fun j hj => g j hj hj⟩) (by
     rintro k y hk ⟨Pj, rfl, g⟩
     have up : ∀ b : Bool, ((di[k].1 = 1 ∧ di[k].2.1 = x.2.1 ∧ di[k].2.2.2.1 = x.2.2.1 ∧ di[k].2.2.2.2.1 = x.2.2.2.1) → b = true) → (Pj = true → b = true) → ∀ j (hj : j < di.length), j < k + 1 → (di[j].1 = 1 ∧ di[j].2.1 = x.2.1 ∧ di[j].2.2.2.1 = x.2.2.1 ∧ di[j].2.2.2.2.1 = x.2.2.2.1) → b = true := fun b h1 h2 j hj F2 hm => by
       by_cases e : j = k
       · subst e; exact h1 hm
       · exact h2 (g j hj (by omega) hm)
     simp only [dO, lA, ax hk, cond_true, ak, au, List.getElem?_eq_getElem hk, Option.bind_some, aG (show k < 4611686018427387904 by omega)]
     cases Pj
     · simp only [cond_false]
       by_cases a1 : di[k].1 = 1
       · by_cases a2 : di[k].2.1 = x.2.1
         · simp only [af a1, af a2, cond_true]
           cases a3 : lX di[k].2.2.2.2.1 x.2.2.2.1
           · exact .inr ⟨_, rfl, false, rfl, up false (fun h => by rw [h.2.2.2, wQ] at a3; cases a3) (fun h => h)⟩
           · exact .inr ⟨_, rfl, _, rfl, up _ (fun h => decide_eq_true h.2.2.1) (fun h => by cases h)⟩
         · simp only [af a1, aj a2, cond_true, cond_false]; exact .inr ⟨_, rfl, false, rfl, up false (fun h => absurd h.2.1 a2) (fun h => h)⟩
       · simp only [aj a1, cond_false]; exact .inr ⟨_, rfl, false, rfl, up false (fun h => absurd h.1 a1) (fun h => h)⟩
     · exact .inr ⟨_, rfl, true, rfl, up true (fun _ => rfl) (fun h => h)⟩) ⟨false, rfl, fun j hj h => by omega⟩
 have he : aE dO (c, ms, di, w.1, w.2.1, w.2.2.1, w.2.2.2.1, w.2.2.2.2.1, w.2.2.2.2.2.1, i, x.1, x.2.1, x.2.2.1, x.2.2.2.1, false, (0 : Int), ()) = _ := he; obtain ⟨e, hm, e1, e2, e3, e4⟩ := hx; obtain ⟨j, hj, rfl⟩ := List.mem_iff_getElem.1 hm; rw [he, hq j hj ⟨e1, e2, e3, e4⟩]
theorem FX (code : List (Int × Unit)) : ou code = some (true, ()) := by
 unfold ou Cv
 by_cases hb : (1048576 : Int) < ((List.length code : Nat) : Int)
 · rw [af hb]; rfl
 rw [aj hb]; have hc : code.length ≤ 1048576 := by omega
 obtain ⟨s0, e0⟩ := VE code hc; obtain ⟨c, ms, di, a', s', e1, hv, hl, he, _⟩ := QN code 0 s0 ⟨by omega, by omega, hc⟩ hc; have hr := EH hv; have Lf := hr.2.1.1; obtain ⟨w, kG, e2, _, _, hW, hT⟩ := Ph hr di hl he; have hs := hW.said.2; have hlen : w.2.1.length = ms.length := by rw [hW.self.2]
 have l1 := cX (round := eO) (e := .inl (c, ms, ())) w.2.2.2.2.2.1.length (fun k => (c, ms, di, w.1, w.2.1, w.2.2.1, w.2.2.2.1, w.2.2.2.2.1, w.2.2.2.2.2.1, ((k : Nat) : Int), ())) (by
   simp only [eO, lB, aD, cond_false]) (fun k hk => by
   have h1 := hT.num k hk; have h2 := FW c ms di w ((k : Nat) : Int) (w.2.2.2.2.2.1[k]) (hT.from_ _ (List.getElem_mem hk)) (by omega); simp only [eO, lB, ax hk, cond_true, ak, au, fH hk, List.getElem?_eq_getElem hk, Option.bind_some, h2, cg, aG (show k < 4611686018427387904 by omega), af h1, Bool.not_true, cond_false])
 have l1 : aE eO (c, ms, di, w.1, w.2.1, w.2.2.1, w.2.2.2.1, w.2.2.2.2.1, w.2.2.2.2.2.1, (0 : Int), ()) = _ := l1; simp only [cond_false, fo, e0, e1, Option.bind_some, e2, Bool.not_true, af (show ((List.length w.2.1 : Nat) : Int) = ((List.length ms : Nat) : Int) by rw [hlen]), l1, cg, zh hr]; rfl
end Go.TM
