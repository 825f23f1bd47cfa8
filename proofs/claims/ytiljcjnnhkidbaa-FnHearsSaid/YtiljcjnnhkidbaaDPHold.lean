/- What a member does that holds a token. -/
import Derived.Test.YtiljcjnnhkidbaaDPHoldL
namespace Go.TM
open Go
theorem sI.id {m : ey} (h : sI m) : 1 ≤ m.1 ∧ m.1 ≤ 5 := by
 obtain ⟨k, hk, e⟩ := List.mem_iff_getElem.1 h.mem; have := (h.ring.2.2 k hk hk).1; rw [e] at this; exact this
theorem HO {list : aM} {xs : dA} {ms : List Int} {c c2 : Int} (hx : sH c xs xs.length) (hc : c ≤ c2) (hm : ∀ s ∈ ms, 1 ≤ s ∧ s ≤ c2) : sH c2 (aN (iH list xs ms)) (aN (iH list xs ms)).length := by
 have hp : (iH list xs ms).Pairwise (· < ·) := List.Pairwise.sublist (List.take_sublist _ _) (List.Pairwise.filter _ (zp 60)); have uW : ∀ s ∈ iH list xs ms, 1 ≤ s ∧ s ≤ c2 := by
   intro s hs; have h1 := List.mem_of_mem_take hs; have h2 := (List.mem_filter.1 h1).2; unfold fA at h2; rw [Bool.or_eq_true, Bool.and_eq_true, decide_eq_true_eq, decide_eq_true_eq] at h2; rcases h2 with ⟨_, h2⟩ | h2
   · unfold aZ at h2; obtain ⟨r, hr, rfl⟩ := List.mem_map.1 h2; obtain ⟨k, hk, rfl⟩ := List.mem_iff_getElem.1 hr; have := hx k hk hk; exact ⟨this.1, by omega⟩
   · exact hm s h2
 intro k hk _; have yG : k < (iH list xs ms).length := by rwa [bJ] at hk
 have e : ∀ j (hj : j < (aN (iH list xs ms)).length) (hj' : j < (iH list xs ms).length), (aN (iH list xs ms))[j].1 = (iH list xs ms)[j] := by intro j hj hj'; simp [aN]
 rw [e k hk yG]; refine ⟨(uW _ (List.getElem_mem yG)).1, (uW _ (List.getElem_mem yG)).2, fun h0 => ?_⟩; rw [e (k - 1) (by omega) (by omega)]; exact List.pairwise_iff_getElem.1 hp (k - 1) k (by omega) yG (by omega)
theorem sW.drop {l : dA} (h : sW l l.length) (k : Nat) : sW (l.drop k) (l.drop k).length := by
 intro j hj _; rw [List.getElem_drop]; rw [List.length_drop] at hj; exact h (k + j) (by omega) (by omega)
theorem gO.drop {l : List (ByteArray × Unit)} (h : gO l l.length) (k : Nat) : gO (l.drop k) (l.drop k).length := by
 intro j hj _; rw [List.getElem_drop]; rw [List.length_drop] at hj; exact h (k + j) (by omega) (by omega)
structure Xc (m : ey) (t : kz) (n : ey) (said : aM) (k : Nat) (nx : kz) : Prop where
 FL : k ≤ 3 ∧ k ≤ m.2.2.2.2.2.1.length ∧ t.2.2.1 + ((k : Nat) : Int) ≤ 60
 said : said = ra t m.2.2.2.1 ++ cW t.2.2.1 m.1 m.2.2.2.2.1 m.2.2.2.2.2.1 k
 id : n.1 = m.1 ∧ n.2.1 = m.2.1 ∧ n.2.2.1 = m.2.2.1
 items : n.2.2.2.1 = bk m.2.2.2.1 (cW t.2.2.1 m.1 m.2.2.2.2.1 m.2.2.2.2.2.1 k)
 words : n.2.2.2.2.1 = m.2.2.2.2.1.drop k ∧ n.2.2.2.2.2.1 = m.2.2.2.2.2.1.drop k
 round : n.2.2.2.2.2.2.1 = t.2.1 ∧ n.2.2.2.2.2.2.2.1 = t.2.2.2.1 ∧ m.2.2.2.2.2.2.2.2.1 ≤ n.2.2.2.2.2.2.2.2.1 ∧ n.2.2.2.2.2.2.2.2.2.1 = m.2.2.2.2.2.2.2.2.2.1
 last : (n.2.2.2.2.2.2.2.2.2.2.1, n.2.2.2.2.2.2.2.2.2.2.2.1, n.2.2.2.2.2.2.2.2.2.2.2.2.1, n.2.2.2.2.2.2.2.2.2.2.2.2.2.1, n.2.2.2.2.2.2.2.2.2.2.2.2.2.2.1, n.2.2.2.2.2.2.2.2.2.2.2.2.2.2.2.1, ()) = nx
 nq : sI n
 tq : Bu nx
 next : nx.1 = t.1 ∧ nx.2.1 = t.2.1 + 1 ∧ nx.2.2.1 = t.2.2.1 + ((k : Nat) : Int)
 abj : k = min 3 m.2.2.2.2.2.1.length ∨ t.2.2.1 + ((k : Nat) : Int) = 60
 marks : nx.2.2.2.1 = zn (t.2.2.1 + ((k : Nat) : Int)) (if t.2.2.2.1 = t.2.2.1 ∧ t.2.2.2.2.1 = 0 then t.2.2.1 + ((k : Nat) : Int) else t.2.2.2.1) t.2.2.2.2.1 m.1 ((cG n.2.2.2.1 : Nat) : Int) ∧ nx.2.2.2.2.1 = zo (t.2.2.1 + ((k : Nat) : Int)) (if t.2.2.2.1 = t.2.2.1 ∧ t.2.2.2.2.1 = 0 then t.2.2.1 + ((k : Nat) : Int) else t.2.2.2.1) t.2.2.2.2.1 m.1 ((cG n.2.2.2.1 : Nat) : Int)
 line : n.2.2.2.2.2.2.2.2.1 = m.2.2.2.2.2.2.2.2.1 ∨ (n.2.2.2.2.2.2.2.2.1 ≤ m.2.2.2.2.2.2.2.1 ∧ n.2.2.2.2.2.2.2.2.1 ≤ t.2.2.2.1 ∧ n.2.2.2.2.2.2.2.2.1 ≤ ((cG n.2.2.2.1 : Nat) : Int))
 Xd : ∀ s ∈ aZ nx.2.2.2.2.2.1, hasB n.2.2.2.1 s = false
theorem OB (m : ey) (t : kz) (hm : sI m) (ht : Bu t) (hc : t.1 = m.2.1) (hr1 : m.2.2.2.2.2.2.1 < t.2.1) (hr2 : t.2.1 < 1000000000) :
   ∃ (n : ey) (said : aM) (k : Nat) (nx : kz), Xc m t n said k nx ∧ kM m.1 m.2.1 m.2.2.1 m.2.2.2.1 m.2.2.2.2.1 m.2.2.2.2.2.1 m.2.2.2.2.2.2.1 m.2.2.2.2.2.2.2.1 m.2.2.2.2.2.2.2.2.1 m.2.2.2.2.2.2.2.2.2.1 m.2.2.2.2.2.2.2.2.2.2.1 m.2.2.2.2.2.2.2.2.2.2.2.1 m.2.2.2.2.2.2.2.2.2.2.2.2.1 m.2.2.2.2.2.2.2.2.2.2.2.2.2.1 m.2.2.2.2.2.2.2.2.2.2.2.2.2.2.1 m.2.2.2.2.2.2.2.2.2.2.2.2.2.2.2.1 t.1 t.2.1 t.2.2.1 t.2.2.2.1 t.2.2.2.2.1 t.2.2.2.2.2.1 = some (n.1, n.2.1, n.2.2.1, n.2.2.2.1, n.2.2.2.2.1, n.2.2.2.2.2.1, n.2.2.2.2.2.2.1, n.2.2.2.2.2.2.2.1, n.2.2.2.2.2.2.2.2.1, n.2.2.2.2.2.2.2.2.2.1, n.2.2.2.2.2.2.2.2.2.2.1, n.2.2.2.2.2.2.2.2.2.2.2.1, n.2.2.2.2.2.2.2.2.2.2.2.2.1, n.2.2.2.2.2.2.2.2.2.2.2.2.2.1, n.2.2.2.2.2.2.2.2.2.2.2.2.2.2.1, n.2.2.2.2.2.2.2.2.2.2.2.2.2.2.2.1, said, ((k : Nat) : Int), nx.1, nx.2.1, nx.2.2.1, nx.2.2.2.1, nx.2.2.2.2.1, nx.2.2.2.2.2.1, true, ()) ∧ iM m.1 m.2.1 m.2.2.1 m.2.2.2.1 m.2.2.2.2.1 m.2.2.2.2.2.1 m.2.2.2.2.2.2.1 m.2.2.2.2.2.2.2.1 m.2.2.2.2.2.2.2.2.1 m.2.2.2.2.2.2.2.2.2.1 m.2.2.2.2.2.2.2.2.2.2.1 m.2.2.2.2.2.2.2.2.2.2.2.1 m.2.2.2.2.2.2.2.2.2.2.2.2.1 m.2.2.2.2.2.2.2.2.2.2.2.2.2.1 m.2.2.2.2.2.2.2.2.2.2.2.2.2.2.1 m.2.2.2.2.2.2.2.2.2.2.2.2.2.2.2.1 t.1 t.2.1 t.2.2.1 t.2.2.2.1 t.2.2.2.2.1 t.2.2.2.2.2.1 = some (n.1, n.2.1, n.2.2.1, n.2.2.2.1, n.2.2.2.2.1, n.2.2.2.2.2.1, n.2.2.2.2.2.2.1, n.2.2.2.2.2.2.2.1, n.2.2.2.2.2.2.2.2.1, n.2.2.2.2.2.2.2.2.2.1, n.2.2.2.2.2.2.2.2.2.2.1, n.2.2.2.2.2.2.2.2.2.2.2.1, n.2.2.2.2.2.2.2.2.2.2.2.2.1, n.2.2.2.2.2.2.2.2.2.2.2.2.2.1, n.2.2.2.2.2.2.2.2.2.2.2.2.2.2.1, n.2.2.2.2.2.2.2.2.2.2.2.2.2.2.2.1, said, nx.1, nx.2.1, nx.2.2.1, nx.2.2.2.1, nx.2.2.2.2.1, nx.2.2.2.2.2.1, true, ()) := by
 have yW := hm.id; have hW := hm.small; have hw := hW; unfold zC at hw; have hwl : t.2.2.2.2.2.1.length ≤ 20 := ht.2.2.2.2.2.1; obtain ⟨k, t3, hN, q1, q2, q3, q4, q5, q6⟩ := HJ t.1 t.2.1 t.2.2.1 t.2.2.2.1 t.2.2.2.2.1 t.2.2.2.2.2.1 m.1 m.2.2.2.2.1 m.2.2.2.2.2.1 (by omega) (by omega) yW ht; obtain ⟨o0, o1, o2, o3, o4, o5, o6, s1, s2, _⟩ := DR t.1 t.2.1 t.2.2.1 t.2.2.2.1 t.2.2.2.2.1 t.2.2.2.2.2.1 m.1 m.2.2.2.2.1 m.2.2.2.2.2.1 (by omega); rw [hN] at s2; injection s2 with s2; simp only [Prod.mk.injEq] at s2; obtain ⟨rfl, rfl, rfl, rfl, rfl, rfl, rfl, _⟩ := s2; have hF : ∀ f ∈ cW t.2.2.1 m.1 m.2.2.2.2.1 m.2.2.2.2.2.1 k, j5 f := zr ⟨ht.2.2.1.1, q3⟩ yW q2 hm.short; have hFl := ot t.2.2.1 m.1 m.2.2.2.2.1 m.2.2.2.2.2.1 k; generalize hFF : cW t.2.2.1 m.1 m.2.2.2.2.1 m.2.2.2.2.2.1 k = F at *; subst hFl; have hi := ou F hm.items hF; have Ut := cA _ hi; have ags := cA _ hm.items; obtain ⟨a1, a2, _⟩ := uu (bk m.2.2.2.1 F) (by omega); have acY : cG m.2.2.2.1 ≤ cG (bk m.2.2.2.1 F) := FI (by omega) (by omega) fun r hr => ⟨r, zq F hr, rfl⟩
 obtain ⟨z0, z1, z2, z3, z4, z5, z6⟩ := ht; have M5 : sH (t.2.2.1 + ((List.length F : Nat) : Int)) t.2.2.2.2.2.1 t.2.2.2.2.2.1.length := fun j hj Lq => by
   have := z6 j hj Lq; exact ⟨this.1, by omega, this.2.2⟩
 have ht3 : 0 ≤ t3 ∧ t3 ≤ t.2.2.1 + ((List.length F : Nat) : Int) := by
   have z3a := z3.1; have z3b := z3.2; have z2a := z2.1; rcases q4 with e | e <;> rw [e] <;> omega
 have htq : Bu (t.1, t.2.1, t.2.2.1 + ((List.length F : Nat) : Int), t3, t.2.2.2.2.1, t.2.2.2.2.2.1, ()) := ⟨z0, z1, ⟨by show 0 ≤ t.2.2.1 + _; omega, q3⟩, ht3, z4, z5, M5⟩; obtain ⟨u1, _, u3⟩ := Bv (t.1, t.2.1, t.2.2.1 + ((List.length F : Nat) : Int), t3, t.2.2.2.2.1, t.2.2.2.2.2.1, ()) (by show t.2.2.2.2.2.1.length ≤ _; omega); rw [u3.2 htq] at u1; obtain ⟨SB, OC, m1, m2, _, m4, m5⟩ := M0 t.1 t.2.1 (t.2.2.1 + ((List.length F : Nat) : Int)) t3 t.2.2.2.2.1 t.2.2.2.2.2.1 m.1 ((cG (bk m.2.2.2.1 F) : Nat) : Int) (by omega) u1; have m4 := m4 rfl yW.1 yW.2 (by omega) htq.2.2.2.1.1 htq.2.2.2.1.2; have m5 := m5 rfl yW.1 yW.2 (by omega); obtain ⟨ms, l1, l2, l3, l4⟩ := FF (bk m.2.2.2.1 F) (t.2.2.1 + ((List.length F : Nat) : Int)) (by omega); have ls := HL t.1 t.2.1 (t.2.2.1 + ((List.length F : Nat) : Int)) SB OC t.2.2.2.2.2.1 (bk m.2.2.2.1 F) ms (by omega) (by omega) l1 l3; have li := HM t.1 t.2.1 (t.2.2.1 + ((List.length F : Nat) : Int)) SB OC t.2.2.2.2.2.1 (bk m.2.2.2.1 F) ms (by omega) (by omega) l2 l3 (fun s hs => ⟨(l4 s hs).1, (l4 s hs).2.1.1, (l4 s hs).2.2⟩); have hlw : sH (t.2.2.1 + ((List.length F : Nat) : Int)) (aN (iH (bk m.2.2.2.1 F) t.2.2.2.2.2.1 ms)) (aN (iH (bk m.2.2.2.1 F) t.2.2.2.2.2.1 ms)).length := HO z6 (by omega) fun s hs => ⟨(l4 s hs).1, (l4 s hs).2.1.2⟩
 have hll : (aN (iH (bk m.2.2.2.1 F) t.2.2.2.2.2.1 ms)).length ≤ 20 := by
   rw [bJ]; unfold iH; rw [List.length_take]; omega
 have hlk : ∀ s ∈ aZ (aN (iH (bk m.2.2.2.1 F) t.2.2.2.2.2.1 ms)), hasB (bk m.2.2.2.1 F) s = false := by
   rw [my]; intro s hs; have h2 := (List.mem_filter.1 (List.mem_of_mem_take hs)).2; unfold fA at h2; rw [Bool.or_eq_true, Bool.and_eq_true, decide_eq_true_eq, decide_eq_true_eq] at h2; rcases h2 with ⟨h2, _⟩ | h2
   · simpa using h2
   · exact (l4 s h2).2.2
 generalize aN (iH (bk m.2.2.2.1 F) t.2.2.2.2.2.1 ms) = W at *; have OD : IntKind.i64.wrap (t.2.1 + (1 : Int)) = t.2.1 + 1 := eB (by omega) (by omega); obtain ⟨c1, c2⟩ := il t.1 (t.2.1 + 1) (t.2.2.1 + ((List.length F : Nat) : Int)) SB OC W (by omega); have Hv : zC m ≤ 1048576 := by omega
 obtain ⟨kb1, kb2, kb3⟩ := sJ m Hv; rw [kb3.2 hm] at kb1 kb2; obtain ⟨kt1, kt2, kt3⟩ := Bv t (by omega); rw [kt3.2 ⟨z0, z1, z2, z3, z4, z5, z6⟩] at kt1 kt2; obtain ⟨p1, p2⟩ := kN m.1 m.2.1 m.2.2.1 m.2.2.2.1 m.2.2.2.2.1 m.2.2.2.2.2.1 m.2.2.2.2.2.2.1 m.2.2.2.2.2.2.2.1 m.2.2.2.2.2.2.2.2.1 m.2.2.2.2.2.2.2.2.2.1 m.2.2.2.2.2.2.2.2.2.2.1 m.2.2.2.2.2.2.2.2.2.2.2.1 m.2.2.2.2.2.2.2.2.2.2.2.2.1 m.2.2.2.2.2.2.2.2.2.2.2.2.2.1 m.2.2.2.2.2.2.2.2.2.2.2.2.2.2.1 m.2.2.2.2.2.2.2.2.2.2.2.2.2.2.2.1 Hv; obtain ⟨g1, g2⟩ := M4 t m.2.2.2.1 (by omega) (by omega); have hgl := FK t m.2.2.2.1; have htx := hm.texts; generalize Xe : (if (if ((cG (bk m.2.2.2.1 F) : Nat) : Int) < (if t.2.2.2.1 < m.2.2.2.2.2.2.2.1 then t.2.2.2.1 else m.2.2.2.2.2.2.2.1) then ((cG (bk m.2.2.2.1 F) : Nat) : Int) else (if t.2.2.2.1 < m.2.2.2.2.2.2.2.1 then t.2.2.2.1 else m.2.2.2.2.2.2.2.1)) > m.2.2.2.2.2.2.2.2.1 then (if ((cG (bk m.2.2.2.1 F) : Nat) : Int) < (if t.2.2.2.1 < m.2.2.2.2.2.2.2.1 then t.2.2.2.1 else m.2.2.2.2.2.2.2.1) then ((cG (bk m.2.2.2.1 F) : Nat) : Int) else (if t.2.2.2.1 < m.2.2.2.2.2.2.2.1 then t.2.2.2.1 else m.2.2.2.2.2.2.2.1)) else m.2.2.2.2.2.2.2.2.1) = line; have hle : m.2.2.2.2.2.2.2.2.1 ≤ line := by
   rw [← Xe]
   split <;> omega
 have hnx : Bu (t.1, t.2.1 + 1, t.2.2.1 + ((List.length F : Nat) : Int), SB, OC, W, ()) := ⟨z0, ⟨by show 1 ≤ t.2.1 + 1; omega, by show t.2.1 + 1 ≤ 1000000000; omega⟩, ⟨by show 0 ≤ t.2.2.1 + _; have := z2.1; omega, q3⟩, ⟨m4.1, m4.2.1⟩, by
   have z4a := z4.1; have z4b := z4.2; show 0 ≤ OC ∧ OC ≤ 5; rcases m4.2.2.2.2 with e | e | ⟨e, _⟩ <;> rw [e] <;> omega, hll, hlw⟩
 refine ⟨(m.1, m.2.1, m.2.2.1, bk m.2.2.2.1 F, m.2.2.2.2.1.drop F.length, m.2.2.2.2.2.1.drop F.length, t.2.1, t.2.2.2.1, line, m.2.2.2.2.2.2.2.2.2.1, t.1, t.2.1 + 1, t.2.2.1 + ((List.length F : Nat) : Int), SB, OC, W, ()), ra t m.2.2.2.1 ++ F, F.length, (t.1, t.2.1 + 1, t.2.2.1 + ((List.length F : Nat) : Int), SB, OC, W, ()), ?_, ?_, ?_⟩
 · have hn : sI (m.1, m.2.1, m.2.2.1, bk m.2.2.2.1 F, m.2.2.2.2.1.drop F.length, m.2.2.2.2.2.1.drop F.length, t.2.1, t.2.2.2.1, line, m.2.2.2.2.2.2.2.2.2.1, t.1, t.2.1 + 1, t.2.2.1 + ((List.length F : Nat) : Int), SB, OC, W, ()) := {
     ring := hm.ring
     mem := hm.mem
     items := hi
     texts := ⟨by show (m.2.2.2.2.2.1.drop F.length).length ≤ 20; rw [List.length_drop]; omega, by show (m.2.2.2.2.1.drop F.length).length = (m.2.2.2.2.2.1.drop F.length).length; rw [List.length_drop, List.length_drop]; omega⟩
     Oy := hm.Oy.drop _
     short := hm.short.drop _
     round := ⟨by show 0 ≤ t.2.1; omega, by show t.2.1 ≤ 1000000000; omega⟩
     seen := ⟨z3.1, by show t.2.2.2.1 ≤ 60; have := z3.2; omega⟩
     line := by
       have hl := hm.line; have hs := hm.seen; have ha := z3.1; show 0 ≤ line ∧ line ≤ ((cG (bk m.2.2.2.1 F) : Nat) : Int); rw [← Xe]
       split <;> split <;> (try split) <;> omega
     heard := by
       have hl := hm.heard; show 0 ≤ m.2.2.2.2.2.2.2.2.2.1 ∧ m.2.2.2.2.2.2.2.2.2.1 ≤ ((cG (bk m.2.2.2.1 F) : Nat) : Int); omega
     last := .inr hnx }
   have Xf : F.length = min 3 m.2.2.2.2.2.1.length ∨ t.2.2.1 + ((F.length : Nat) : Int) = 60 := by
     rcases q5 with h | h | ⟨h, h'⟩
     · exact .inl h
     · exact .inr (by omega)
     · have := hm.short _ h h; omega
   have Xg : line = m.2.2.2.2.2.2.2.2.1 ∨ (line ≤ m.2.2.2.2.2.2.2.1 ∧ line ≤ t.2.2.2.1 ∧ line ≤ ((cG (bk m.2.2.2.1 F) : Nat) : Int)) := by
     rw [← Xe]
     split <;> split <;> (try split) <;> omega
   exact { FL := ⟨q1, q2, q3⟩, said := by rw [hFF], id := ⟨rfl, rfl, rfl⟩, items := by rw [hFF], words := ⟨rfl, rfl⟩, round := ⟨rfl, rfl, hle, rfl⟩, last := rfl, nq := hn, tq := hnx, next := ⟨rfl, rfl, rfl⟩, abj := Xf, marks := ⟨m5.1.trans (by rw [q6]), m5.2.trans (by rw [q6])⟩, line := Xg, Xd := hlk }
 · unfold kM; simp only [ah hc, ai (show ¬ t.2.1 ≤ m.2.2.2.2.2.2.1 by omega), ai (show ¬ (1000000000 : Int) ≤ t.2.1 by omega), kb2, kt2, p2, g2, hN, Option.bind_some, Bool.not_true, cond_false, cond_true, aq, aC, ah (show ((List.length F : Nat) : Int) ≤ ((List.length m.2.2.2.2.1 : Nat) : Int) by omega), ah (show ((List.length F : Nat) : Int) ≤ ((List.length m.2.2.2.2.2.1 : Nat) : Int) by omega)]; rw [BC (hx := hm.items) (hf := hF) (hn := by omega) ..]; simp only [iw, a2, m2, li, OD, c2, Option.bind_some, Xe]; rw [aH (show ((ra t m.2.2.2.1).length + F.length) * 40 ≤ lim by unfold lim; omega)]; rfl
 · subst Xe; unfold iM; simp only [ah hc, ai (show ¬ t.2.1 ≤ m.2.2.2.2.2.2.1 by omega), ai (show ¬ (1000000000 : Int) ≤ t.2.1 by omega), kb1, kt1, p1, g1, s1, Option.bind_some, Bool.not_true, cond_false, cond_true, aq, aC, ah (show ((List.length F : Nat) : Int) ≤ ((List.length m.2.2.2.2.1 : Nat) : Int) by omega), ah (show ((List.length F : Nat) : Int) ≤ ((List.length m.2.2.2.2.2.1 : Nat) : Int) by omega),
     aH (show (0 + (ra t m.2.2.2.1).length) * 40 ≤ lim by unfold lim; omega), aH (show (0 + (List.drop F.length m.2.2.2.2.1).length) * 8 ≤ lim by rw [List.length_drop]; unfold lim; omega), aH (show (0 + (List.drop F.length m.2.2.2.2.2.1).length) * 16 ≤ lim by rw [List.length_drop]; unfold lim; omega), List.nil_append]
   rw [BD (hx := hm.items) (hf := hF) (hn := by omega) ..]; simp only [iw, a1, m1, Option.bind_some, aH (show ((ra t m.2.2.2.1).length + F.length) * 40 ≤ lim by unfold lim; omega), cond_true]
   by_cases h1 : t.2.2.2.1 < m.2.2.2.2.2.2.2.1
   · rw [ah h1, if_pos h1]; simp only [cond_true]
     by_cases h2 : ((cG (bk m.2.2.2.1 F) : Nat) : Int) < t.2.2.2.1
     · rw [ah h2, if_pos h2]; simp only [cond_true]
       by_cases h3 : m.2.2.2.2.2.2.2.2.1 < ((cG (bk m.2.2.2.1 F) : Nat) : Int)
       · rw [ah h3, if_pos (show ((cG (bk m.2.2.2.1 F) : Nat) : Int) > m.2.2.2.2.2.2.2.2.1 from h3)]; simp only [cond_true, ls, OD, c1, Option.bind_some]
       · rw [ai h3, if_neg (show ¬ ((cG (bk m.2.2.2.1 F) : Nat) : Int) > m.2.2.2.2.2.2.2.2.1 from h3)]; simp only [cond_false, ls, OD, c1, Option.bind_some]
     · rw [ai h2, if_neg h2]; simp only [cond_false]
       by_cases h3 : m.2.2.2.2.2.2.2.2.1 < t.2.2.2.1
       · rw [ah h3, if_pos (show t.2.2.2.1 > m.2.2.2.2.2.2.2.2.1 from h3)]; simp only [cond_true, ls, OD, c1, Option.bind_some]
       · rw [ai h3, if_neg (show ¬ t.2.2.2.1 > m.2.2.2.2.2.2.2.2.1 from h3)]; simp only [cond_false, ls, OD, c1, Option.bind_some]
   · rw [ai h1, if_neg h1]; simp only [cond_false]
     by_cases h2 : ((cG (bk m.2.2.2.1 F) : Nat) : Int) < m.2.2.2.2.2.2.2.1
     · rw [ah h2, if_pos h2]; simp only [cond_true]
       by_cases h3 : m.2.2.2.2.2.2.2.2.1 < ((cG (bk m.2.2.2.1 F) : Nat) : Int)
       · rw [ah h3, if_pos (show ((cG (bk m.2.2.2.1 F) : Nat) : Int) > m.2.2.2.2.2.2.2.2.1 from h3)]; simp only [cond_true, ls, OD, c1, Option.bind_some]
       · rw [ai h3, if_neg (show ¬ ((cG (bk m.2.2.2.1 F) : Nat) : Int) > m.2.2.2.2.2.2.2.2.1 from h3)]; simp only [cond_false, ls, OD, c1, Option.bind_some]
     · rw [ai h2, if_neg h2]; simp only [cond_false]
       by_cases h3 : m.2.2.2.2.2.2.2.2.1 < m.2.2.2.2.2.2.2.1
       · rw [ah h3, if_pos (show m.2.2.2.2.2.2.2.1 > m.2.2.2.2.2.2.2.2.1 from h3)]; simp only [cond_true, ls, OD, c1, Option.bind_some]
       · rw [ai h3, if_neg (show ¬ m.2.2.2.2.2.2.2.1 > m.2.2.2.2.2.2.2.2.1 from h3)]; simp only [cond_false, ls, OD, c1, Option.bind_some]
noncomputable def IF (m : ey) (t : kz) : Bool := vg m && (B9 t && (decide (t.1 = m.2.1) && (decide (m.2.2.2.2.2.2.1 < t.2.1) && decide (t.2.1 < 1000000000))))
theorem OE (m : ey) (t : kz) (h : zC m ≤ 1048576) (hw : t.2.2.2.2.2.1.length ≤ 1048576) (hn : IF m t = false) : kM m.1 m.2.1 m.2.2.1 m.2.2.2.1 m.2.2.2.2.1 m.2.2.2.2.2.1 m.2.2.2.2.2.2.1 m.2.2.2.2.2.2.2.1 m.2.2.2.2.2.2.2.2.1 m.2.2.2.2.2.2.2.2.2.1 m.2.2.2.2.2.2.2.2.2.2.1 m.2.2.2.2.2.2.2.2.2.2.2.1 m.2.2.2.2.2.2.2.2.2.2.2.2.1 m.2.2.2.2.2.2.2.2.2.2.2.2.2.1 m.2.2.2.2.2.2.2.2.2.2.2.2.2.2.1 m.2.2.2.2.2.2.2.2.2.2.2.2.2.2.2.1 t.1 t.2.1 t.2.2.1 t.2.2.2.1 t.2.2.2.2.1 t.2.2.2.2.2.1 = some ((0 : Int), (0 : Int), [], [], [], [], (0 : Int), (0 : Int), (0 : Int), (0 : Int), (0 : Int), (0 : Int), (0 : Int), (0 : Int), (0 : Int), [], [], (0 : Int), (0 : Int), (0 : Int), (0 : Int), (0 : Int), (0 : Int), [], false, ()) ∧
   iM m.1 m.2.1 m.2.2.1 m.2.2.2.1 m.2.2.2.2.1 m.2.2.2.2.2.1 m.2.2.2.2.2.2.1 m.2.2.2.2.2.2.2.1 m.2.2.2.2.2.2.2.2.1 m.2.2.2.2.2.2.2.2.2.1 m.2.2.2.2.2.2.2.2.2.2.1 m.2.2.2.2.2.2.2.2.2.2.2.1 m.2.2.2.2.2.2.2.2.2.2.2.2.1 m.2.2.2.2.2.2.2.2.2.2.2.2.2.1 m.2.2.2.2.2.2.2.2.2.2.2.2.2.2.1 m.2.2.2.2.2.2.2.2.2.2.2.2.2.2.2.1 t.1 t.2.1 t.2.2.1 t.2.2.2.1 t.2.2.2.2.1 t.2.2.2.2.2.1 = some (m.1, m.2.1, m.2.2.1, m.2.2.2.1, m.2.2.2.2.1, m.2.2.2.2.2.1, m.2.2.2.2.2.2.1, m.2.2.2.2.2.2.2.1, m.2.2.2.2.2.2.2.2.1, m.2.2.2.2.2.2.2.2.2.1, m.2.2.2.2.2.2.2.2.2.2.1, m.2.2.2.2.2.2.2.2.2.2.2.1, m.2.2.2.2.2.2.2.2.2.2.2.2.1, m.2.2.2.2.2.2.2.2.2.2.2.2.2.1, m.2.2.2.2.2.2.2.2.2.2.2.2.2.2.1, m.2.2.2.2.2.2.2.2.2.2.2.2.2.2.2.1, [], (0 : Int), (0 : Int), (0 : Int), (0 : Int), (0 : Int), [], false, ()) := by
 obtain ⟨k1, k2, _⟩ := sJ m h; obtain ⟨t1, t2, _⟩ := Bv t hw; obtain ⟨p1, _⟩ := kN m.1 m.2.1 m.2.2.1 m.2.2.2.1 m.2.2.2.2.1 m.2.2.2.2.2.1 m.2.2.2.2.2.2.1 m.2.2.2.2.2.2.2.1 m.2.2.2.2.2.2.2.2.1 m.2.2.2.2.2.2.2.2.2.1 m.2.2.2.2.2.2.2.2.2.2.1 m.2.2.2.2.2.2.2.2.2.2.2.1 m.2.2.2.2.2.2.2.2.2.2.2.2.1 m.2.2.2.2.2.2.2.2.2.2.2.2.2.1 m.2.2.2.2.2.2.2.2.2.2.2.2.2.2.1 m.2.2.2.2.2.2.2.2.2.2.2.2.2.2.2.1 h; unfold IF at hn
 constructor
 · unfold kM
   by_cases a1 : t.1 = m.2.1
   case neg => rw [ai a1]; rfl
   by_cases a2 : m.2.2.2.2.2.2.1 < t.2.1
   case neg => rw [ah a1, ah (show t.2.1 ≤ m.2.2.2.2.2.2.1 by omega)]; rfl
   by_cases a3 : t.2.1 < 1000000000
   case neg => rw [ah a1, ai (show ¬ t.2.1 ≤ m.2.2.2.2.2.2.1 by omega), ah (show (1000000000 : Int) ≤ t.2.1 by omega)]; rfl
   rw [ah a1, ah a2, ah a3] at hn; rw [ah a1, ai (show ¬ t.2.1 ≤ m.2.2.2.2.2.2.1 by omega), ai (show ¬ (1000000000 : Int) ≤ t.2.1 by omega)]; simp only [Bool.not_true, cond_false, k2, Option.bind_some]
   cases hb : vg m
   · rfl
   · rw [hb] at hn
     cases hc : B9 t
     · simp only [t2, hc, Bool.not_true, cond_false, Option.bind_some]; rfl
     · rw [hc] at hn; cases hn
 · unfold iM; simp only [p1, k1, Option.bind_some]
   cases hb : vg m
   · rfl
   simp only [Bool.not_true, cond_false, t1, Option.bind_some]
   cases hc : B9 t
   · rfl
   by_cases a1 : t.1 = m.2.1
   case neg => rw [ai a1]; rfl
   by_cases a2 : m.2.2.2.2.2.2.1 < t.2.1
   case neg => rw [ah a1, ah (show t.2.1 ≤ m.2.2.2.2.2.2.1 by omega)]; rfl
   by_cases a3 : t.2.1 < 1000000000
   case neg => rw [ah a1, ai (show ¬ t.2.1 ≤ m.2.2.2.2.2.2.1 by omega), ah (show (1000000000 : Int) ≤ t.2.1 by omega)]; rfl
   rw [ah a1, ah a2, ah a3, hb, hc] at hn
   cases hn
def aW : ey := (0, 0, [], [], [], [], 0, 0, 0, 0, 0, 0, 0, 0, 0, [], ())
def IG (m : ey) (level : Int) (text : ByteArray) : ey := (m.1, m.2.1, m.2.2.1, m.2.2.2.1, m.2.2.2.2.1 ++ [(level, ())], m.2.2.2.2.2.1 ++ [(text, ())], m.2.2.2.2.2.2)
noncomputable def M6 (m : ey) (level : Int) (text : ByteArray) : Bool := vg m && ((decide (1 ≤ level) && decide (level ≤ 2)) && (decide (ByteArray.size text ≤ 60) && decide (m.2.2.2.2.2.1.length < 20)))
noncomputable def im (m : ey) (level : Int) (text : ByteArray) : ey × Bool := bif M6 m level text then (IG m level text, true) else (aW, false)
theorem M7 (m : ey) (level : Int) (text : ByteArray) (h : zC m ≤ 1048576) : tX m.1 m.2.1 m.2.2.1 m.2.2.2.1 m.2.2.2.2.1 m.2.2.2.2.2.1 m.2.2.2.2.2.2.1 m.2.2.2.2.2.2.2.1 m.2.2.2.2.2.2.2.2.1 m.2.2.2.2.2.2.2.2.2.1 m.2.2.2.2.2.2.2.2.2.2.1 m.2.2.2.2.2.2.2.2.2.2.2.1 m.2.2.2.2.2.2.2.2.2.2.2.2.1 m.2.2.2.2.2.2.2.2.2.2.2.2.2.1 m.2.2.2.2.2.2.2.2.2.2.2.2.2.2.1 m.2.2.2.2.2.2.2.2.2.2.2.2.2.2.2.1 level text = some ((im m level text).1.1, (im m level text).1.2.1, (im m level text).1.2.2.1, (im m level text).1.2.2.2.1, (im m level text).1.2.2.2.2.1, (im m level text).1.2.2.2.2.2.1, (im m level text).1.2.2.2.2.2.2.1, (im m level text).1.2.2.2.2.2.2.2.1, (im m level text).1.2.2.2.2.2.2.2.2.1, (im m level text).1.2.2.2.2.2.2.2.2.2.1, (im m level text).1.2.2.2.2.2.2.2.2.2.2.1, (im m level text).1.2.2.2.2.2.2.2.2.2.2.2.1, (im m level text).1.2.2.2.2.2.2.2.2.2.2.2.2.1, (im m level text).1.2.2.2.2.2.2.2.2.2.2.2.2.2.1, (im m level text).1.2.2.2.2.2.2.2.2.2.2.2.2.2.2.1, (im m level text).1.2.2.2.2.2.2.2.2.2.2.2.2.2.2.2.1, (im m level text).2, ()) ∧ Fx m.1 m.2.1 m.2.2.1 m.2.2.2.1 m.2.2.2.2.1 m.2.2.2.2.2.1 m.2.2.2.2.2.2.1 m.2.2.2.2.2.2.2.1 m.2.2.2.2.2.2.2.2.1 m.2.2.2.2.2.2.2.2.2.1 m.2.2.2.2.2.2.2.2.2.2.1 m.2.2.2.2.2.2.2.2.2.2.2.1 m.2.2.2.2.2.2.2.2.2.2.2.2.1 m.2.2.2.2.2.2.2.2.2.2.2.2.2.1 m.2.2.2.2.2.2.2.2.2.2.2.2.2.2.1 m.2.2.2.2.2.2.2.2.2.2.2.2.2.2.2.1 level text = some ((im m level text).1.1, (im m level text).1.2.1, (im m level text).1.2.2.1, (im m level text).1.2.2.2.1, (im m level text).1.2.2.2.2.1, (im m level text).1.2.2.2.2.2.1, (im m level text).1.2.2.2.2.2.2.1, (im m level text).1.2.2.2.2.2.2.2.1, (im m level text).1.2.2.2.2.2.2.2.2.1, (im m level text).1.2.2.2.2.2.2.2.2.2.1, (im m level text).1.2.2.2.2.2.2.2.2.2.2.1, (im m level text).1.2.2.2.2.2.2.2.2.2.2.2.1, (im m level text).1.2.2.2.2.2.2.2.2.2.2.2.2.1, (im m level text).1.2.2.2.2.2.2.2.2.2.2.2.2.2.1, (im m level text).1.2.2.2.2.2.2.2.2.2.2.2.2.2.2.1, (im m level text).1.2.2.2.2.2.2.2.2.2.2.2.2.2.2.2.1, (im m level text).2, ()) := by
 obtain ⟨k1, k2, k3⟩ := sJ m h; obtain ⟨p1, p2⟩ := kN m.1 m.2.1 m.2.2.1 m.2.2.2.1 m.2.2.2.2.1 m.2.2.2.2.2.1 m.2.2.2.2.2.2.1 m.2.2.2.2.2.2.2.1 m.2.2.2.2.2.2.2.2.1 m.2.2.2.2.2.2.2.2.2.1 m.2.2.2.2.2.2.2.2.2.2.1 m.2.2.2.2.2.2.2.2.2.2.2.1 m.2.2.2.2.2.2.2.2.2.2.2.2.1 m.2.2.2.2.2.2.2.2.2.2.2.2.2.1 m.2.2.2.2.2.2.2.2.2.2.2.2.2.2.1 m.2.2.2.2.2.2.2.2.2.2.2.2.2.2.2.1 h; unfold tX Fx im M6; simp only [k1, k2, p1, p2, mT, xM, Option.bind_some]
 cases hb : vg m
 · cases (decide (1 ≤ level) && decide (level ≤ 2))
   · exact ⟨rfl, rfl⟩
   cases decide ((60 : Int) < ((ByteArray.size text : Nat) : Int))
   · cases decide ((20 : Int) ≤ ((List.length m.2.2.2.2.2.1 : Nat) : Int))
     · exact ⟨rfl, rfl⟩
     · exact ⟨rfl, rfl⟩
   · exact ⟨rfl, rfl⟩
 have hs := (k3.1 hb).small; unfold zC at hs
 cases (decide (1 ≤ level) && decide (level ≤ 2))
 · exact ⟨rfl, rfl⟩
 by_cases w1 : ByteArray.size text ≤ 60
 case neg => rw [ai w1, ah (show (60 : Int) < ((ByteArray.size text : Nat) : Int) by omega)]; exact ⟨rfl, rfl⟩
 by_cases w2 : m.2.2.2.2.2.1.length < 20
 case neg => rw [ah w1, ai w2, ai (show ¬ (60 : Int) < ((ByteArray.size text : Nat) : Int) by omega), ah (show (20 : Int) ≤ ((List.length m.2.2.2.2.2.1 : Nat) : Int) by omega)]; exact ⟨rfl, rfl⟩
 rw [ah w1, ah w2, ai (show ¬ (60 : Int) < ((ByteArray.size text : Nat) : Int) by omega), ai (show ¬ (20 : Int) ≤ ((List.length m.2.2.2.2.2.1 : Nat) : Int) by omega)]; simp only [Bool.not_true, cond_false, aH (show (m.2.2.2.2.1.length + 1) * 8 ≤ lim by unfold lim; omega), aH (show (m.2.2.2.2.2.1.length + 1) * 16 ≤ lim by unfold lim; omega), cond_true, Bool.and_true]; exact ⟨rfl, rfl⟩
theorem OF {m : ey} (hm : sI m) {level : Int} {text : ByteArray} (hl : 1 ≤ level ∧ level ≤ 2) (ht : ByteArray.size text ≤ 60) (hn : m.2.2.2.2.2.1.length < 20) : sI (IG m level text) := {
 ring := hm.ring
 mem := hm.mem
 items := hm.items
 texts := ⟨by show (m.2.2.2.2.2.1 ++ [(text, ())]).length ≤ 20; simp; omega, by show (m.2.2.2.2.1 ++ [(level, ())]).length = (m.2.2.2.2.2.1 ++ [(text, ())]).length; have := hm.texts.2; simp; omega⟩
 Oy := fun j hj _ => by
   have hj : j < (m.2.2.2.2.1 ++ [(level, ())]).length := hj; show (decide (1 ≤ (m.2.2.2.2.1 ++ [(level, ())])[j].1) && decide ((m.2.2.2.2.1 ++ [(level, ())])[j].1 ≤ 2)) = true
   by_cases h : j < m.2.2.2.2.1.length
   · rw [List.getElem_append_left h]; exact hm.Oy j h h
   · have : j = m.2.2.2.2.1.length := by simp at hj; omega
     subst this; simp [hl.1, hl.2]
 short := fun j hj _ => by
   have hj : j < (m.2.2.2.2.2.1 ++ [(text, ())]).length := hj; show ByteArray.size (m.2.2.2.2.2.1 ++ [(text, ())])[j].1 ≤ 60
   by_cases h : j < m.2.2.2.2.2.1.length
   · rw [List.getElem_append_left h]; exact hm.short j h h
   · have : j = m.2.2.2.2.2.1.length := by simp at hj; omega
     subst this; simpa using ht
 round := hm.round
 seen := hm.seen
 line := hm.line
 heard := hm.heard
 last := hm.last }
theorem DW {c2 d : Int} {lv : dA} {tx : List (ByteArray × Unit)} {m k : Nat} (hk : k < (cW c2 d lv tx m).length) : (cW c2 d lv tx m)[k] = uS c2 d lv tx k := by
 simp [cW]
theorem xT {c2 d : Int} {lv : dA} {tx : List (ByteArray × Unit)} {m : Nat} {f : dz} (hf : f ∈ cW c2 d lv tx m) : ∃ k, k < m ∧ f = uS c2 d lv tx k := by
 obtain ⟨k, hk, rfl⟩ := List.mem_iff_getElem.1 hf; rw [ot] at hk; exact ⟨k, hk, DW _⟩
def JT (m : ey) (v : Int) : ey := (m.1, m.2.1, m.2.2.1, m.2.2.2.1, m.2.2.2.2.1, m.2.2.2.2.2.1, m.2.2.2.2.2.2.1, m.2.2.2.2.2.2.2.1, m.2.2.2.2.2.2.2.2.1, v, m.2.2.2.2.2.2.2.2.2.2)
theorem DX {m : ey} (hm : sI m) : ∃ (k : Nat) (n : ey), n = JT m (m.2.2.2.2.2.2.2.2.2.1 + ((k : Nat) : Int)) ∧ mf m.1 m.2.1 m.2.2.1 m.2.2.2.1 m.2.2.2.2.1 m.2.2.2.2.2.1 m.2.2.2.2.2.2.1 m.2.2.2.2.2.2.2.1 m.2.2.2.2.2.2.2.2.1 m.2.2.2.2.2.2.2.2.2.1 m.2.2.2.2.2.2.2.2.2.2.1 m.2.2.2.2.2.2.2.2.2.2.2.1 m.2.2.2.2.2.2.2.2.2.2.2.2.1 m.2.2.2.2.2.2.2.2.2.2.2.2.2.1 m.2.2.2.2.2.2.2.2.2.2.2.2.2.2.1 m.2.2.2.2.2.2.2.2.2.2.2.2.2.2.2.1 = some (n.1, n.2.1, n.2.2.1, n.2.2.2.1, n.2.2.2.2.1, n.2.2.2.2.2.1, n.2.2.2.2.2.2.1, n.2.2.2.2.2.2.2.1, n.2.2.2.2.2.2.2.2.1, n.2.2.2.2.2.2.2.2.2.1, n.2.2.2.2.2.2.2.2.2.2.1, n.2.2.2.2.2.2.2.2.2.2.2.1, n.2.2.2.2.2.2.2.2.2.2.2.2.1, n.2.2.2.2.2.2.2.2.2.2.2.2.2.1, n.2.2.2.2.2.2.2.2.2.2.2.2.2.2.1, n.2.2.2.2.2.2.2.2.2.2.2.2.2.2.2.1, fJ m.2.2.2.1 m.2.2.2.2.2.2.2.2.2.1 k, ()) ∧ oF m.1 m.2.1 m.2.2.1 m.2.2.2.1 m.2.2.2.2.1 m.2.2.2.2.2.1 m.2.2.2.2.2.2.1 m.2.2.2.2.2.2.2.1 m.2.2.2.2.2.2.2.2.1 m.2.2.2.2.2.2.2.2.2.1 m.2.2.2.2.2.2.2.2.2.2.1 m.2.2.2.2.2.2.2.2.2.2.2.1 m.2.2.2.2.2.2.2.2.2.2.2.2.1 m.2.2.2.2.2.2.2.2.2.2.2.2.2.1 m.2.2.2.2.2.2.2.2.2.2.2.2.2.2.1 m.2.2.2.2.2.2.2.2.2.2.2.2.2.2.2.1 = some (n.1, n.2.1, n.2.2.1, n.2.2.2.1, n.2.2.2.2.1, n.2.2.2.2.2.1, n.2.2.2.2.2.2.1, n.2.2.2.2.2.2.2.1, n.2.2.2.2.2.2.2.2.1, n.2.2.2.2.2.2.2.2.2.1, n.2.2.2.2.2.2.2.2.2.2.1, n.2.2.2.2.2.2.2.2.2.2.2.1, n.2.2.2.2.2.2.2.2.2.2.2.2.1, n.2.2.2.2.2.2.2.2.2.2.2.2.2.1, n.2.2.2.2.2.2.2.2.2.2.2.2.2.2.1, n.2.2.2.2.2.2.2.2.2.2.2.2.2.2.2.1, fJ m.2.2.2.1 m.2.2.2.2.2.2.2.2.2.1 k, ()) ∧ sI n ∧
   m.2.2.2.2.2.2.2.2.2.1 + ((k : Nat) : Int) ≤ ((cG m.2.2.2.1 : Nat) : Int) ∧ (∀ j, j < k → ¬ xR m.2.2.2.1 m.2.2.2.2.2.2.2.2.1 (m.2.2.2.2.2.2.2.2.2.1 + ((j + 1 : Nat) : Int))) ∧ (m.2.2.2.2.2.2.2.2.2.1 + ((k : Nat) : Int) < ((cG m.2.2.2.1 : Nat) : Int) → xR m.2.2.2.1 m.2.2.2.2.2.2.2.2.1 (m.2.2.2.2.2.2.2.2.2.1 + ((k + 1 : Nat) : Int))) := by
 have hw := hm.small; have hb := (sJ m (Nat.le_trans hw (by decide))).2.2.2 hm; obtain ⟨k, v, h1, h2, h3, _, h5⟩ := MY m (Nat.le_trans hw (by decide)); subst h3; obtain ⟨g1, g2, g3⟩ := h5 hb; have hh := hm.heard; exact ⟨k, _, rfl, h2, h1, { ring := hm.ring, mem := hm.mem, items := hm.items, texts := hm.texts, Oy := hm.Oy, short := hm.short, round := hm.round, seen := hm.seen, line := hm.line, heard := ⟨by show 0 ≤ m.2.2.2.2.2.2.2.2.2.1 + ((k : Nat) : Int); omega, g1⟩, last := hm.last }, g1, g2, g3⟩
def dS (code : List (Int × Unit)) (at_ : Int) : Prop := 0 ≤ at_ ∧ at_ ≤ ((code.length : Nat) : Int) ∧ code.length ≤ 1048576
theorem zO (y : Int) : 0 ≤ IntKind.i64.wrap ((BitVec.ofInt IntKind.i64.bits y &&& BitVec.ofInt IntKind.i64.bits (255 : Int)).toNat : Int) ∧ IntKind.i64.wrap ((BitVec.ofInt IntKind.i64.bits y &&& BitVec.ofInt IntKind.i64.bits (255 : Int)).toNat : Int) ≤ 255 := by
 have h : (BitVec.ofInt IntKind.i64.bits y &&& BitVec.ofInt IntKind.i64.bits (255 : Int)).toNat ≤ 255 := by
   rw [BitVec.toNat_and]; exact Nat.le_trans Nat.and_le_right (by decide)
 rw [eB (by omega) (by omega)]; omega
def P4 (code : List (Int × Unit)) (o : Option (Int × (List (Int × Unit)) × Int × Int × Unit)) (lo hi : Int) : Prop :=
 ∃ v FM s', o = some (v, code, FM, s', ()) ∧ lo ≤ v ∧ v < hi ∧ dS code FM
theorem xU (code : List (Int × Unit)) (at_ pW : Int) (h : dS code at_) : P4 code (gi code at_ pW) 0 256 := by
 obtain ⟨h0, h1, h2⟩ := h; unfold gi
 by_cases bP : at_ < ((List.length code : Nat) : Int)
 · obtain ⟨k, rfl⟩ := Int.eq_ofNat_of_zero_le h0; have hk : k < code.length := by omega
   rw [ah bP]; simp only [cond_true, aq, aC, List.getElem?_eq_getElem hk, Option.bind_some, aJ (show k < 4611686018427387904 by omega)]; exact ⟨_, _, _, rfl, (zO _).1, by have := (zO (IntKind.i64.wrap ((IntKind.i64.wrap ((BitVec.ofInt IntKind.i64.bits (IntKind.i64.wrap ((BitVec.ofInt IntKind.i64.bits (Int.fdiv (IntKind.i64.wrap ((IntKind.i64.wrap (pW * (6364136223846793005 : Int))) + (1442695040888963407 : Int))) (2 ^ (min 33 IntKind.i64.bits))) ^^^ BitVec.ofInt IntKind.i64.bits (Int.fdiv (IntKind.i64.wrap ((IntKind.i64.wrap (pW * (6364136223846793005 : Int))) + (1442695040888963407 : Int))) (2 ^ (min 45 IntKind.i64.bits)))).toNat : Int)) &&& BitVec.ofInt IntKind.i64.bits (255 : Int)).toNat : Int)) + (IntKind.i64.wrap code[k].1)))).2; exact Int.lt_add_one_of_le this, by omega, by omega, h2⟩
 · rw [ai bP]; exact ⟨_, _, _, rfl, (zO _).1, Int.lt_add_one_of_le (zO _).2, h0, h1, h2⟩
theorem wK {v n : Int} (hv : 0 ≤ v) (hn : 0 < n) : 0 ≤ Int.tmod v n ∧ Int.tmod v n < n := by
 obtain ⟨a, rfl⟩ := Int.eq_ofNat_of_zero_le hv; obtain ⟨b, rfl⟩ := Int.eq_ofNat_of_zero_le (Int.le_of_lt hn); have : Int.tmod ((a : Nat) : Int) ((b : Nat) : Int) = ((a % b : Nat) : Int) := rfl; rw [this]; have := Nat.mod_lt a (show 0 < b by omega); omega
theorem mU (code : List (Int × Unit)) (at_ pW n : Int) (h : dS code at_) (hn : 0 < n) : P4 code (bd code at_ pW n) 0 n := by
 unfold bd; rw [ai (show ¬ n ≤ 0 by omega), ai (show ¬ n = 0 by omega)]
 by_cases Xh : n ≤ 256
 · obtain ⟨v, a1, s1, e1, v1, v2, d1⟩ := xU code at_ pW h; rw [ah Xh]; simp only [cond_false, cond_true, e1, Option.bind_some]; exact ⟨_, _, _, rfl, (wK v1 hn).1, (wK v1 hn).2, d1⟩
 · obtain ⟨v, a1, s1, e1, v1, v2, d1⟩ := xU code at_ pW h; obtain ⟨w, a2, s2, e2, w1, w2, d2⟩ := xU code a1 s1 d1; obtain ⟨x, a3, s3, e3, x1, x2, d3⟩ := xU code a2 s2 d2; obtain ⟨y, a4, s4, e4, y1, y2, d4⟩ := xU code a3 s3 d3; rw [ai Xh]; simp only [cond_false, e1, e2, e3, e4, Option.bind_some]; have hw : IntKind.i64.wrap ((IntKind.i64.wrap ((IntKind.i64.wrap ((IntKind.i64.wrap (v * (16777216 : Int))) + (IntKind.i64.wrap (w * (65536 : Int))))) + (IntKind.i64.wrap (x * (256 : Int))))) + y) = v * 16777216 + w * 65536 + x * 256 + y := by
     rw [eB (show -9223372036854775808 ≤ v * (16777216 : Int) by omega) (by omega), eB (show -9223372036854775808 ≤ w * (65536 : Int) by omega) (by omega), eB (show -9223372036854775808 ≤ x * (256 : Int) by omega) (by omega),
       eB (show -9223372036854775808 ≤ v * (16777216 : Int) + w * 65536 by omega) (by omega), eB (show -9223372036854775808 ≤ v * (16777216 : Int) + w * 65536 + x * 256 by omega) (by omega), eB (by omega) (by omega)]
   rw [hw]; have hr := wK (v := v * 16777216 + w * 65536 + x * 256 + y) (by omega) hn; exact ⟨_, _, _, rfl, hr.1, hr.2, d4⟩
theorem DY (code : List (Int × Unit)) (at_ pW n : Int) (h : dS code at_) (hn : 0 < n) : ∃ b FM s', ib code at_ pW n = some (b, code, FM, s', ()) ∧ dS code FM := by
 obtain ⟨v, a1, s1, e1, v1, v2, d1⟩ := mU code at_ pW n h hn; unfold ib; simp only [e1, Option.bind_some]; exact ⟨_, _, _, rfl, d1⟩
def SC {B : Type} (code : List (Int × Unit)) : Sum ((List (Int × Unit)) × Int × Unit) B → Prop
 | .inl y => y.1 = code
 | .inr _ => False
theorem SD (code : List (Int × Unit)) (h : code.length ≤ 1048576) : ∃ s', mF code = some (code, (0 : Int), s', ()) := by
 unfold mF; obtain ⟨e, he, hq⟩ := eg (round := jl) (x := (code, IntKind.i64.wrap ((27101 : Int) + ((List.length code : Nat) : Int)), ((0 : Nat) : Int), ())) code.length (fun k x => ∃ s, x = (code, s, ((k : Nat) : Int), ())) (SC code) (by
   rintro x ⟨s, rfl⟩
   exact ⟨.inl (code, s, ()), by simp only [jl, o8, aF, cond_false], rfl⟩) (by
   rintro k x hk ⟨s, rfl⟩
   simp only [jl, o8, az hk, aq, cond_true, aC, List.getElem?_eq_getElem hk, Option.bind_some, aJ (show k < 4611686018427387904 by omega)]
   cases decide (((k : Nat) : Int) < (4000 : Int))
   · exact .inl ⟨.inl (code, s, ()), rfl, rfl⟩
   · exact .inr ⟨_, rfl, _, rfl⟩) ⟨_, rfl⟩
 rw [show ((0 : Nat) : Int) = (0 : Int) from rfl] at he; rw [he]
 cases e with
 | inr e => exact hq.elim
 | inl e =>
   have hq : e.1 = code := hq; exact ⟨e.2.1, by rw [← hq]; rfl⟩
theorem OG (code : List (Int × Unit)) (at_ pW : Int) (l : List (Int × Unit)) (h : dS code at_) (h0 : 0 < l.length) : ∃ v FM s', eW code at_ pW l = some (v, code, FM, s', ()) ∧ (v, ()) ∈ l ∧ dS code FM := by
 obtain ⟨v, a1, s1, e1, v1, v2, d1⟩ := mU code at_ pW ((l.length : Nat) : Int) h (by omega); obtain ⟨k, rfl⟩ := Int.eq_ofNat_of_zero_le v1; have hk : k < l.length := by omega
 unfold eW; simp only [e1, Option.bind_some, aq, cond_true, aC, List.getElem?_eq_getElem hk]; exact ⟨_, _, _, rfl, List.getElem_mem hk, d1⟩
theorem M8 (code : List (Int × Unit)) (at_ pW : Int) (l : List (ByteArray × Unit)) (h : dS code at_) (h0 : 0 < l.length) : ∃ v FM s', n7 code at_ pW l = some (v, code, FM, s', ()) ∧ (v, ()) ∈ l ∧ dS code FM := by
 obtain ⟨v, a1, s1, e1, v1, v2, d1⟩ := mU code at_ pW ((l.length : Nat) : Int) h (by omega); obtain ⟨k, rfl⟩ := Int.eq_ofNat_of_zero_le v1; have hk : k < l.length := by omega
 unfold n7; simp only [e1, Option.bind_some, aq, cond_true, aC, List.getElem?_eq_getElem hk]; exact ⟨_, _, _, rfl, List.getElem_mem hk, d1⟩
def nP (xs : List (Int × Unit)) (m : Nat) : Prop := xs.length ≤ m ∧ (∀ j (hj : j < xs.length), 1 ≤ xs[j].1 ∧ xs[j].1 ≤ ((m : Nat) : Int)) ∧ ∀ i j (hi : i < xs.length) (hj : j < xs.length), i < j → xs[i].1 < xs[j].1
theorem nP.snoc {xs : List (Int × Unit)} {m : Nat} (h : nP xs m) : nP (xs ++ [(((m + 1 : Nat) : Int), ())]) (m + 1) := by
 obtain ⟨h1, h2, h3⟩ := h; refine ⟨by simp; omega, fun j hj => ?_, fun i j hi hj NX => ?_⟩
 · by_cases hx : j < xs.length
   · rw [List.getElem_append_left hx]; have := h2 j hx; omega
   · have : j = xs.length := by simp at hj; omega
     subst this; simp; omega
 · by_cases hx : j < xs.length
   · rw [List.getElem_append_left hx, List.getElem_append_left (by omega)]; exact h3 i j (by omega) hx NX
   · have hj' : j = xs.length := by simp at hj; omega
     subst hj'; have Nz : i < xs.length := NX; rw [List.getElem_append_left Nz]; have := h2 i Nz; simp; omega
theorem nP.up {xs : List (Int × Unit)} {m : Nat} (h : nP xs m) : nP xs (m + 1) :=
 ⟨by have := h.1; omega, fun j hj => by have := h.2.1 j hj; omega, h.2.2⟩
structure FN (c : Int) (xs : List (Int × Unit)) : Prop where
 xE : 1 ≤ c
 id2 : c ≤ 9
 some_ : 1 ≤ xs.length
 rising : nP xs 5
theorem FN.len {c : Int} {xs : List (Int × Unit)} (h : FN c xs) : xs.length ≤ 5 := h.rising.1
def M9 {B : Type} (code : List (Int × Unit)) (c : Int) : Sum ((List (Int × Unit)) × Int × Int × Int × (List (Int × Unit)) × Int × (List (Int × Unit)) × Unit) B → Prop
 | .inl y => y.1 = code ∧ dS code y.2.1 ∧ y.2.2.2.2.2.1 = c ∧ nP y.2.2.2.2.2.2.1 4
 | .inr _ => False
theorem HP (code : List (Int × Unit)) (at_ pW : Int) (h : dS code at_) : ∃ c xs FM s', n5 code at_ pW = some (c, xs, code, FM, s', ()) ∧ FN c xs ∧ c ≤ 3 ∧ nP xs 4 ∧ dS code FM := by
 obtain ⟨v, a1, s1, e1, v1, v2, d1⟩ := mU code at_ pW 3 h (by omega); unfold n5; rw [e1]; simp only [Option.bind_some]; have hw : IntKind.i64.wrap ((1 : Int) + v) = 1 + v := eB (by omega) (by omega); rw [hw]; obtain ⟨e, he, hq⟩ := eg (round := fO) (x := (code, a1, s1, (0 : Int), [], 1 + v, [], ((1 : Nat) : Int), ())) 4 (fun k x => ∃ (a s : Int) (m : List (Int × Unit)), x = (code, a, s, (0 : Int), [], 1 + v, m, ((k + 1 : Nat) : Int), ()) ∧ dS code a ∧ nP m k)
   (M9 code (1 + v)) (by
   rintro x ⟨a, s, m, rfl, da, rm⟩
   exact ⟨.inl (code, a, s, 0, [], 1 + v, m, ()), by simp only [fO, na, ai (show ¬ ((4 + 1 : Nat) : Int) ≤ 4 by omega), cond_false], rfl, da, rfl, rm⟩) (by
   rintro k x hk ⟨a, s, m, rfl, da, rm⟩
   obtain ⟨b, a2, s2, e2, d2⟩ := DY code a s 3 da (by omega); have NF := rm.1; have hs : IntKind.i64.wrap (((k + 1 : Nat) : Int) + (1 : Int)) = ((k + 1 + 1 : Nat) : Int) := by rw [eB] <;> omega
   simp only [fO, na, ah (show ((k + 1 : Nat) : Int) ≤ 4 by omega), cond_true, e2, Option.bind_some, aH (show (List.length m + 1) * 8 ≤ lim by unfold lim; omega), hs]
   cases b
   · exact .inr ⟨_, rfl, a2, s2, m ++ [(((k + 1 : Nat) : Int), ())], rfl, d2, rm.snoc⟩
   · exact .inr ⟨_, rfl, a2, s2, m, rfl, d2, rm.up⟩) ⟨a1, s1, [], rfl, d1, by simp, fun j hj => by simp at hj, fun i j hi => by simp at hi⟩
 have he : aE fO (code, a1, s1, (0 : Int), [], 1 + v, [], (1 : Int), ()) = some e := he; rw [he]
 cases e with
 | inr e => exact hq.elim
 | inl e =>
   obtain ⟨y1, y2, y3, y4, y5, y6, y7, _⟩ := e; obtain ⟨q1, q2, q3, q4⟩ := hq; simp only at q1 q2 q3 q4; subst q1 q3; simp only [iw]; have q5 : nP y7 5 := q4.up
   by_cases h0 : ((List.length y7 : Nat) : Int) = 0
   · rw [ah h0]; have r4 : nP [((2 : Int), ())] 4 := ⟨by simp, fun j hj => by
       have : j = 0 := by simp at hj; omega
       subst this; simp, fun i j hi hj NX => by simp at hi hj; omega⟩
     exact ⟨_, _, _, _, rfl, ⟨by omega, by omega, by simp, r4.up⟩, by omega, r4, q2⟩
   · rw [ai h0]; exact ⟨_, _, _, _, rfl, ⟨by omega, by omega, by omega, q5⟩, by omega, q4, q2⟩
abbrev abl : Type := Int × Int × (List (Int × Unit)) × aM × (List (Int × Unit)) × (List (ByteArray × Unit)) × Int × Int × Int × Int × Int × Int × Int × Int × Int × (List (Int × Unit)) × Unit
def ow (c : Int) (xs : List (Int × Unit)) (id : Int) : abl := (id, c, xs, [], [], [], 0, 0, 0, 0, 0, 0, 0, 0, 0, [], ())
theorem DZ (c : Int) (xs : List (Int × Unit)) (id : Int) (h : xs.length ≤ 1048576) (hr : b8 c xs = some (true, ())) (hm : (id, ()) ∈ xs) : fq id c xs = some (id, c, xs, [], [], [], 0, 0, 0, 0, 0, 0, 0, 0, 0, [], true, ()) := by
 unfold fq; simp only [hr, DO _ _ h, ah hm, Option.bind_some, Bool.not_true, cond_false, aH (show (0 + xs.length) * 8 ≤ lim by unfold lim; omega), cond_true, List.nil_append]
theorem map_take {α β : Type} (f : α → β) (xs : List α) {k : Nat} (hk : k < xs.length) : (xs.take (k + 1)).map f = (xs.take k).map f ++ [f xs[k]] := by
 rw [List.take_succ_eq_append_getElem hk, List.map_append]; rfl
abbrev sL : Type := Int × Bool × Int × Int × Int × Int × Int × dA × Int × Int × Int × ByteArray × Unit
abbrev Xi : Type := List (aM × Unit)
abbrev cH : Type := Int × dA × List ey × List sL × Xi × aM × Unit
def xV (w : cH) (k : Nat) (m : ey) : cH := (w.1, w.2.1, w.2.2.1.set k m, w.2.2.2)
def oz (w : cH) (l : List sL) : cH := (w.1, w.2.1, w.2.2.1, l, w.2.2.2.2)
def abm (w : cH) (l : Xi) : cH := (w.1, w.2.1, w.2.2.1, w.2.2.2.1, l, w.2.2.2.2.2)
def Xj (w : cH) (l : aM) : cH := (w.1, w.2.1, w.2.2.1, w.2.2.2.1, w.2.2.2.2.1, l, ())
theorem HQ (w : cH) (h : w.2.2.1.length ≤ 1048576) (id : Int) : ∃ a, ie w.1 w.2.1 w.2.2.1 w.2.2.2.1 w.2.2.2.2.1 w.2.2.2.2.2.1 id = some (a, w.1, w.2.1, w.2.2.1, w.2.2.2.1, w.2.2.2.2.1, w.2.2.2.2.2.1, ()) ∧ ((a = -1 ∧ ∀ k (hk : k < w.2.2.1.length), (w.2.2.1[k]).1 ≠ id) ∨ ∃ k, ∃ hk : k < w.2.2.1.length, a = ((k : Nat) : Int) ∧ (w.2.2.1[k]).1 = id) := by
 obtain ⟨e, he, hq⟩ := eg (round := iJ) (x := (w.1, w.2.1, w.2.2.1, w.2.2.2.1, w.2.2.2.2.1, w.2.2.2.2.2.1, id, ((0 : Nat) : Int), ())) w.2.2.1.length (fun k x => x = (w.1, w.2.1, w.2.2.1, w.2.2.2.1, w.2.2.2.2.1, w.2.2.2.2.2.1, id, ((k : Nat) : Int), ()) ∧ ∀ j (hj : j < w.2.2.1.length), j < k → (w.2.2.1[j]).1 ≠ id)
   (fun e => (e = .inl (w.1, w.2.1, w.2.2.1, w.2.2.2.1, w.2.2.2.2.1, w.2.2.2.2.2.1, ()) ∧ ∀ k (hk : k < w.2.2.1.length), (w.2.2.1[k]).1 ≠ id) ∨ ∃ k, ∃ hk : k < w.2.2.1.length, e = .inr (w.1, w.2.1, w.2.2.1, w.2.2.2.1, w.2.2.2.2.1, w.2.2.2.2.2.1, ((k : Nat) : Int), ()) ∧ (w.2.2.1[k]).1 = id) (by
     rintro x ⟨rfl, g⟩
     exact ⟨_, by simp only [iJ, qy, aF, cond_false], .inl ⟨rfl, fun k hk => g k hk hk⟩⟩) (by
     rintro k x hk ⟨rfl, g⟩
     simp only [iJ, qy, az hk, aq, cond_true, aC, List.getElem?_eq_getElem hk, Option.bind_some, aJ (show k < 4611686018427387904 by omega)]
     by_cases e : (w.2.2.1[k]).1 = id
     · rw [ah e]; exact .inl ⟨_, rfl, .inr ⟨k, hk, rfl, e⟩⟩
     · rw [ai e]; refine .inr ⟨_, rfl, rfl, fun j hj F0 => ?_⟩
       by_cases e2 : j < k
       · exact g j hj e2
       · have : j = k := by omega
         subst this; exact e) ⟨rfl, fun j hj h => by omega⟩
 have he : aE iJ (w.1, w.2.1, w.2.2.1, w.2.2.2.1, w.2.2.2.2.1, w.2.2.2.2.2.1, id, (0 : Int), ()) = some e := he; unfold ie; rw [he]; rcases hq with ⟨rfl, g⟩ | ⟨k, hk, rfl, g⟩
 · exact ⟨_, rfl, .inl ⟨rfl, g⟩⟩
 · exact ⟨_, rfl, .inr ⟨k, hk, rfl, g⟩⟩
theorem xW (w : cH) (h : w.2.2.1.length ≤ 1048576) {k : Nat} (hk : k < w.2.2.1.length) (m : ey) : eC w.1 w.2.1 w.2.2.1 w.2.2.2.1 w.2.2.2.2.1 w.2.2.2.2.2.1 ((k : Nat) : Int) m.1 m.2.1 m.2.2.1 m.2.2.2.1 m.2.2.2.2.1 m.2.2.2.2.2.1 m.2.2.2.2.2.2.1 m.2.2.2.2.2.2.2.1 m.2.2.2.2.2.2.2.2.1 m.2.2.2.2.2.2.2.2.2.1 m.2.2.2.2.2.2.2.2.2.2.1 m.2.2.2.2.2.2.2.2.2.2.2.1 m.2.2.2.2.2.2.2.2.2.2.2.2.1 m.2.2.2.2.2.2.2.2.2.2.2.2.2.1 m.2.2.2.2.2.2.2.2.2.2.2.2.2.2.1 m.2.2.2.2.2.2.2.2.2.2.2.2.2.2.2.1 = some ((xV w k m).1, (xV w k m).2.1, (xV w k m).2.2.1, (xV w k m).2.2.2.1, (xV w k m).2.2.2.2.1, (xV w k m).2.2.2.2.2.1, ()) := by
 unfold eC; simp only [aH (show (0 + w.2.2.1.length) * 208 ≤ lim by unfold lim; omega), aq, aC, List.nil_append, mD hk, List.getElem?_eq_getElem hk, Option.bind_some, cond_true]; rfl
def iq (ms : List ey) (id : Int) (x : dz) : List sL := (ms.filter fun m => !decide (m.1 = id)).map fun m => (m.1, false, 0, 0, 0, 0, 0, [], x.1, x.2.1, x.2.2.1, x.2.2.2.1, ())
def gL (ms : List ey) (id : Int) (l : aM) : List sL := l.flatMap (iq ms id)
theorem D0 (ms : List ey) (id : Int) (x : dz) {k : Nat} (hk : k < ms.length) : iq (ms.take (k + 1)) id x = iq (ms.take k) id x ++ (bif !decide (ms[k].1 = id) then [(ms[k].1, false, 0, 0, 0, 0, 0, [], x.1, x.2.1, x.2.2.1, x.2.2.2.1, ())] else []) := by
 unfold iq; rw [List.take_succ_eq_append_getElem hk, List.filter_append, List.map_append, List.filter_cons]
 cases decide (ms[k].1 = id) <;> rfl
theorem zt (ms : List ey) (id : Int) (x : dz) : (iq ms id x).length ≤ ms.length := by
 unfold iq; rw [List.length_map]; exact List.length_filter_le _ _
theorem HR (ms : List ey) (id : Int) (l : aM) {k : Nat} (hk : k < l.length) : gL ms id (l.take (k + 1)) = gL ms id (l.take k) ++ iq ms id l[k] := by
 unfold gL; rw [List.take_succ_eq_append_getElem hk, List.flatMap_append]; simp
theorem uT (ms : List ey) (id : Int) (n : Nat) (hn : ms.length ≤ n) : (l : aM) → (gL ms id l).length ≤ n * l.length
 | [] => Nat.zero_le _
 | x :: l => by
   have h1 := zt ms id x; have h2 := uT ms id n hn l; show (iq ms id x ++ gL ms id l).length ≤ n * (l.length + 1); rw [List.length_append, Nat.mul_succ]; omega
theorem CZ {ms : List ey} {id : Int} {l : aM} {f : sL} (h : f ∈ gL ms id l) : ∃ m ∈ ms, ∃ x ∈ l, m.1 ≠ id ∧ f = (m.1, false, 0, 0, 0, 0, 0, [], x.1, x.2.1, x.2.2.1, x.2.2.2.1, ()) := by
 unfold gL iq at h; obtain ⟨x, hx, h⟩ := List.mem_flatMap.1 h; obtain ⟨m, hm, rfl⟩ := List.mem_map.1 h; obtain ⟨hm, hn⟩ := List.mem_filter.1 hm; refine ⟨m, hm, x, hx, fun e => ?_, rfl⟩; rw [ah e] at hn
 cases hn
theorem FO (w : cH) (id : Int) (l : aM) (h1 : w.2.2.1.length ≤ 5) (h2 : w.2.2.2.1.length ≤ 1073741824) (h3 : l.length ≤ 1048576) : jC w.1 w.2.1 w.2.2.1 w.2.2.2.1 w.2.2.2.2.1 w.2.2.2.2.2.1 id l = some ((oz w (w.2.2.2.1 ++ gL w.2.2.1 id l)).1, (oz w (w.2.2.2.1 ++ gL w.2.2.1 id l)).2.1, (oz w (w.2.2.2.1 ++ gL w.2.2.1 id l)).2.2.1, (oz w (w.2.2.2.1 ++ gL w.2.2.1 id l)).2.2.2.1, (oz w (w.2.2.2.1 ++ gL w.2.2.1 id l)).2.2.2.2.1, (oz w (w.2.2.2.1 ++ gL w.2.2.1 id l)).2.2.2.2.2.1, ()) := by
 have inner : ∀ (fl : List sL) (i : Nat) (hi : i < l.length), fl.length ≤ 2147483648 → aE eZ (w.1, w.2.1, w.2.2.1, w.2.2.2.1, w.2.2.2.2.1, w.2.2.2.2.2.1, id, l, fl, ((i : Nat) : Int), (0 : Int), ()) = some (.inl (w.1, w.2.1, w.2.2.1, w.2.2.2.1, w.2.2.2.2.1, w.2.2.2.2.2.1, id, l, fl ++ iq w.2.2.1 id l[i], ((i : Nat) : Int), ())) := by
   intro fl i hi hf; have l1 := ef (round := eZ) (e := .inl (w.1, w.2.1, w.2.2.1, w.2.2.2.1, w.2.2.2.2.1, w.2.2.2.2.2.1, id, l, fl ++ iq w.2.2.1 id l[i], ((i : Nat) : Int), ())) w.2.2.1.length (fun k => (w.1, w.2.1, w.2.2.1, w.2.2.2.1, w.2.2.2.2.1, w.2.2.2.2.2.1, id, l, fl ++ iq (w.2.2.1.take k) id l[i], ((i : Nat) : Int), ((k : Nat) : Int), ())) (by
     simp only [eZ, nf, aF, cond_false, List.take_length]) (fun k hk => by
     have hb : Nat.ble (((fl ++ iq (w.2.2.1.take k) id l[i]).length + 1) * 120) lim = true := aH (by
       have := zt (w.2.2.1.take k) id l[i]; rw [List.length_take] at this; rw [List.length_append]; unfold lim; omega)
     rw [D0 w.2.2.1 id l[i] hk]; simp only [eZ, nf, az hk, aq, cond_true, aC, List.getElem?_eq_getElem hk, List.getElem?_eq_getElem hi, Option.bind_some, aJ (show k < 4611686018427387904 by omega), hb]
     cases decide ((w.2.2.1[k]).1 = id)
     · simp only [Bool.not_false, cond_true, List.append_assoc]
     · simp only [Bool.not_true, cond_false, List.append_nil])
   have l1 : aE eZ (w.1, w.2.1, w.2.2.1, w.2.2.2.1, w.2.2.2.2.1, w.2.2.2.2.2.1, id, l, fl ++ iq (w.2.2.1.take 0) id l[i], ((i : Nat) : Int), (0 : Int), ()) = _ := l1
   rwa [show iq (w.2.2.1.take 0) id l[i] = [] from rfl, List.append_nil] at l1
 have l2 := ef (round := fQ) (e := .inl (w.1, w.2.1, w.2.2.1, w.2.2.2.1, w.2.2.2.2.1, w.2.2.2.2.2.1, w.2.2.2.1 ++ gL w.2.2.1 id l, ())) l.length (fun k => (w.1, w.2.1, w.2.2.1, w.2.2.2.1, w.2.2.2.2.1, w.2.2.2.2.2.1, id, l, w.2.2.2.1 ++ gL w.2.2.1 id (l.take k), ((k : Nat) : Int), ())) (by
   simp only [fQ, ng, aF, cond_false, List.take_length]) (fun k hk => by
   have hl := uT w.2.2.1 id 5 h1 (l.take k); rw [List.length_take] at hl; rw [HR w.2.2.1 id l hk]; simp only [fQ, ng, az hk, cond_true, inner _ k hk (show (w.2.2.2.1 ++ gL w.2.2.1 id (l.take k)).length ≤ 2147483648 by rw [List.length_append]; omega), cj, Option.bind_some, aJ (show k < 4611686018427387904 by omega), List.append_assoc])
 have l2 : aE fQ (w.1, w.2.1, w.2.2.1, w.2.2.2.1, w.2.2.2.2.1, w.2.2.2.2.2.1, id, l, w.2.2.2.1 ++ gL w.2.2.1 id (l.take 0), (0 : Int), ()) = _ := l2; rw [show gL w.2.2.1 id (l.take 0) = [] from rfl, List.append_nil] at l2; unfold jC; simp only [aH (show (0 + w.2.2.2.1.length) * 120 ≤ lim by unfold lim; omega), cond_true, List.nil_append, l2, cj, Option.bind_some]; rfl
theorem yy (a b : Nat) : Int.tmod ((a : Nat) : Int) ((b : Nat) : Int) = ((a % b : Nat) : Int) := rfl
noncomputable def nV (c : Int) (xs : dA) (id : Int) : Int := match bN c xs id with | some x => x.1 | none => 0
theorem OH (c : Int) (xs : dA) (id : Int) (h : xs.length ≤ 1048576) : bN c xs id = some (nV c xs id, ()) := by
 have key : ∃ b, bN c xs id = some (b, ()) := by
   unfold bN; rw [(qh c xs h).1]
   cases Bt c xs
   · exact ⟨0, rfl⟩
   obtain ⟨e, he, _⟩ := eg (round := dN) (x := (id, c, xs, ((0 : Nat) : Int), ())) xs.length (fun k x => x = (id, c, xs, ((k : Nat) : Int), ())) (fun _ => True) (by
       rintro x rfl
       exact ⟨.inl (), by simp only [dN, lr, aF, cond_false], trivial⟩) (by
       rintro k x hk rfl
       have hm : (k + 1) % xs.length < xs.length := Nat.mod_lt _ (by omega); simp only [dN, lr, az hk, aq, cond_true, aC, List.getElem?_eq_getElem hk, Option.bind_some, aJ (show k < 4611686018427387904 by omega), yy, List.getElem?_eq_getElem hm, ai (show ¬ ((List.length xs : Nat) : Int) = 0 by omega), cond_false]
       cases decide (xs[k].1 = id)
       · exact .inr ⟨_, rfl, rfl⟩
       · exact .inl ⟨_, rfl, trivial⟩) rfl
   have he : aE dN (id, c, xs, (0 : Int), ()) = some e := he; simp only [Option.bind_some, Bool.not_true, cond_false, he]
   cases e
   · exact ⟨_, rfl⟩
   · exact ⟨_, rfl⟩
 obtain ⟨b, h1⟩ := key; have : nV c xs id = b := by unfold nV; rw [h1]
 rw [this]; exact h1
def kC (to_ : Int) (t : kz) : sL := (to_, true, t.1, t.2.1, t.2.2.1, t.2.2.2.1, t.2.2.2.2.1, t.2.2.2.2.2.1, 0, 0, 0, ByteArray.empty, ())
theorem C0 (w : cH) (id : Int) (t : kz) (h1 : w.2.1.length ≤ 1048576) (h2 : w.2.2.2.1.length ≤ 2147483648) (h3 : t.2.2.2.2.2.1.length ≤ 1048576) : dI w.1 w.2.1 w.2.2.1 w.2.2.2.1 w.2.2.2.2.1 w.2.2.2.2.2.1 id t.1 t.2.1 t.2.2.1 t.2.2.2.1 t.2.2.2.2.1 t.2.2.2.2.2.1 = some ((oz w (w.2.2.2.1 ++ [kC (nV w.1 w.2.1 id) t])).1, (oz w (w.2.2.2.1 ++ [kC (nV w.1 w.2.1 id) t])).2.1, (oz w (w.2.2.2.1 ++ [kC (nV w.1 w.2.1 id) t])).2.2.1, (oz w (w.2.2.2.1 ++ [kC (nV w.1 w.2.1 id) t])).2.2.2.1, (oz w (w.2.2.2.1 ++ [kC (nV w.1 w.2.1 id) t])).2.2.2.2.1, (oz w (w.2.2.2.1 ++ [kC (nV w.1 w.2.1 id) t])).2.2.2.2.2.1, ()) := by
 unfold dI; simp only [aH (show (0 + w.2.2.2.1.length) * 120 ≤ lim by unfold lim; omega), OH w.1 w.2.1 id h1, (il t.1 t.2.1 t.2.2.1 t.2.2.2.1 t.2.2.2.2.1 t.2.2.2.2.2.1 h3).1, Option.bind_some, cond_true, List.nil_append, aH (show (w.2.2.2.1.length + 1) * 120 ≤ lim by unfold lim; omega)]; rfl
def Na (m : ey) : aM := m.2.2.2.1.filter fun x => decide (x.2.1 = m.1)
def mV (m : ey) : kz := (m.2.2.2.2.2.2.2.2.2.2.1, m.2.2.2.2.2.2.2.2.2.2.2.1, m.2.2.2.2.2.2.2.2.2.2.2.2.1, m.2.2.2.2.2.2.2.2.2.2.2.2.2.1, m.2.2.2.2.2.2.2.2.2.2.2.2.2.2.1, m.2.2.2.2.2.2.2.2.2.2.2.2.2.2.2.1, ())
noncomputable def uA (w : cH) (m : ey) : cH := oz w (w.2.2.2.1 ++ [kC (nV w.1 w.2.1 m.1) (mV m)] ++ gL w.2.2.1 m.1 (Na m))
theorem JU (w : cH) {k : Nat} (hk : k < w.2.2.1.length) (h1 : w.2.2.1.length ≤ 5) (h2 : w.2.2.2.1.length ≤ 1073741823) (h3 : w.2.1.length ≤ 1048576) (h4 : (w.2.2.1[k]).2.2.2.1.length ≤ 1048576) (h5 : (w.2.2.1[k]).2.2.2.2.2.2.2.2.2.2.2.2.2.2.2.1.length ≤ 1048576) :
   iK w.1 w.2.1 w.2.2.1 w.2.2.2.1 w.2.2.2.2.1 w.2.2.2.2.2.1 ((k : Nat) : Int) = (bif pI (mV w.2.2.1[k]) then some ((1 : Int), w.1, w.2.1, w.2.2.1, w.2.2.2.1, w.2.2.2.2.1, w.2.2.2.2.2.1, ()) else some ((0 : Int), (uA w w.2.2.1[k]).1, (uA w w.2.2.1[k]).2.1, (uA w w.2.2.1[k]).2.2.1, (uA w w.2.2.1[k]).2.2.2.1, (uA w w.2.2.1[k]).2.2.2.2.1, (uA w w.2.2.1[k]).2.2.2.2.2.1, ())) := by
 generalize hm : w.2.2.1[k] = m at *; have l1 := ef (round := fE) (e := .inl (w.1, w.2.1, w.2.2.1, w.2.2.2.1, w.2.2.2.2.1, w.2.2.2.2.2.1, m.1, m.2.1, m.2.2.1, m.2.2.2.1, m.2.2.2.2.1, m.2.2.2.2.2.1, m.2.2.2.2.2.2.1, m.2.2.2.2.2.2.2.1, m.2.2.2.2.2.2.2.2.1, m.2.2.2.2.2.2.2.2.2.1, m.2.2.2.2.2.2.2.2.2.2.1, m.2.2.2.2.2.2.2.2.2.2.2.1, m.2.2.2.2.2.2.2.2.2.2.2.2.1, m.2.2.2.2.2.2.2.2.2.2.2.2.2.1, m.2.2.2.2.2.2.2.2.2.2.2.2.2.2.1, m.2.2.2.2.2.2.2.2.2.2.2.2.2.2.2.1, Na m, ())) m.2.2.2.1.length (fun i => (w.1, w.2.1, w.2.2.1, w.2.2.2.1, w.2.2.2.2.1, w.2.2.2.2.2.1, m.1, m.2.1, m.2.2.1, m.2.2.2.1, m.2.2.2.2.1, m.2.2.2.2.2.1, m.2.2.2.2.2.2.1, m.2.2.2.2.2.2.2.1, m.2.2.2.2.2.2.2.2.1, m.2.2.2.2.2.2.2.2.2.1, m.2.2.2.2.2.2.2.2.2.2.1, m.2.2.2.2.2.2.2.2.2.2.2.1, m.2.2.2.2.2.2.2.2.2.2.2.2.1, m.2.2.2.2.2.2.2.2.2.2.2.2.2.1, m.2.2.2.2.2.2.2.2.2.2.2.2.2.2.1, m.2.2.2.2.2.2.2.2.2.2.2.2.2.2.2.1, (m.2.2.2.1.take i).filter (fun x => decide (x.2.1 = m.1)), ((i : Nat) : Int), ())) (by
   simp only [fE, ma, aF, cond_false, List.take_length]; rfl) (fun i hi => by
   have hb : Nat.ble ((((m.2.2.2.1.take i).filter (fun x => decide (x.2.1 = m.1))).length + 1) * 40) lim = true := aH (by
     have := List.length_filter_le (fun x : dz => decide (x.2.1 = m.1)) (m.2.2.2.1.take i); rw [List.length_take] at this; unfold lim; omega)
   rw [List.take_succ_eq_append_getElem hi, List.filter_append, List.filter_cons]; simp only [fE, ma, az hi, aq, cond_true, aC, List.getElem?_eq_getElem hi, Option.bind_some, aJ (show i < 4611686018427387904 by omega), hb]
   by_cases e : (m.2.2.2.1[i]).2.1 = m.1
   · rw [ah e]; rfl
   · rw [ai e]; simp only [cond_false]; rw [if_neg (by decide)]; simp)
 have l1 : aE fE (w.1, w.2.1, w.2.2.1, w.2.2.2.1, w.2.2.2.2.1, w.2.2.2.2.2.1, m.1, m.2.1, m.2.2.1, m.2.2.2.1, m.2.2.2.2.1, m.2.2.2.2.2.1, m.2.2.2.2.2.2.1, m.2.2.2.2.2.2.2.1, m.2.2.2.2.2.2.2.2.1, m.2.2.2.2.2.2.2.2.2.1, m.2.2.2.2.2.2.2.2.2.2.1, m.2.2.2.2.2.2.2.2.2.2.2.1, m.2.2.2.2.2.2.2.2.2.2.2.2.1, m.2.2.2.2.2.2.2.2.2.2.2.2.2.1, m.2.2.2.2.2.2.2.2.2.2.2.2.2.2.1, m.2.2.2.2.2.2.2.2.2.2.2.2.2.2.2.1, [], (0 : Int), ()) = _ := l1; unfold iK; have hb : dH m.2.2.2.2.2.2.2.2.2.2.1 m.2.2.2.2.2.2.2.2.2.2.2.1 m.2.2.2.2.2.2.2.2.2.2.2.2.1 m.2.2.2.2.2.2.2.2.2.2.2.2.2.1 m.2.2.2.2.2.2.2.2.2.2.2.2.2.2.1 m.2.2.2.2.2.2.2.2.2.2.2.2.2.2.2.1 = some (pI (mV m), ()) := (ur (mV m)).1; simp only [aq, cond_true, aC, List.getElem?_eq_getElem hk, hm, Option.bind_some, hb]
 cases pI (mV m)
 · have t1 : dI w.1 w.2.1 w.2.2.1 w.2.2.2.1 w.2.2.2.2.1 w.2.2.2.2.2.1 m.1 m.2.2.2.2.2.2.2.2.2.2.1 m.2.2.2.2.2.2.2.2.2.2.2.1 m.2.2.2.2.2.2.2.2.2.2.2.2.1 m.2.2.2.2.2.2.2.2.2.2.2.2.2.1 m.2.2.2.2.2.2.2.2.2.2.2.2.2.2.1 m.2.2.2.2.2.2.2.2.2.2.2.2.2.2.2.1 = _ := C0 w m.1 (mV m) h3 (by omega) h5; have t2 := FO (oz w (w.2.2.2.1 ++ [kC (nV w.1 w.2.1 m.1) (mV m)])) m.1 (Na m) h1 (by show (w.2.2.2.1 ++ [_]).length ≤ _; rw [List.length_append, List.length_singleton]; omega) (Nat.le_trans (List.length_filter_le _ _) h4); simp only [cond_false, l1, cj, t1, Option.bind_some, t2]; rfl
 · rfl
structure Nb (f : sL) : Prop where
 tok : f.2.1 = true → Bu (f.2.2.1, f.2.2.2.1, f.2.2.2.2.1, f.2.2.2.2.2.1, f.2.2.2.2.2.2.1, f.2.2.2.2.2.2.2.1, ())
 item : f.2.1 = false → j5 (f.2.2.2.2.2.2.2.2.1, f.2.2.2.2.2.2.2.2.2.1, f.2.2.2.2.2.2.2.2.2.2.1, f.2.2.2.2.2.2.2.2.2.2.2.1, ())
 FL : f.2.2.2.2.2.2.2.1.length ≤ 20
structure eN (n : Nat) (c : Int) (ms : dA) (w : cH) : Prop where
 ring : pH c ms
 self : w.1 = c ∧ w.2.1 = ms
 len : w.2.2.1.length = ms.length
 ids : ∀ k (hk : k < w.2.2.1.length) (hm : k < ms.length), (w.2.2.1[k]).1 = ms[k].1
 Cb : ∀ m ∈ w.2.2.1, sI m ∧ m.2.1 = c ∧ m.2.2.1 = ms
 zD : ∀ f ∈ w.2.2.2.1, Nb f
 FL : w.2.2.2.1.length ≤ 400 * (n + 1)
 heard : w.2.2.2.2.1.length = ms.length
 list : ∀ h ∈ w.2.2.2.2.1, h.1.length ≤ 60 * n
 said : (∀ x ∈ w.2.2.2.2.2.1, j5 x) ∧ w.2.2.2.2.2.1.length ≤ 63 * n
theorem eN.up {n n' : Nat} {c : Int} {ms : dA} {w : cH} (h : eN n c ms w) (hn : n ≤ n') : eN n' c ms w :=
 { h with FL := by have := h.FL; omega, list := fun x hx => by have := h.list x hx; omega, said := ⟨h.said.1, by have := h.said.2; omega⟩ }
theorem eN.pX {n : Nat} {c : Int} {ms : dA} {w : cH} (h : eN n c ms w) {k : Nat} (hk : k < w.2.2.1.length) {m : ey} (hm : sI m) (h1 : m.1 = (w.2.2.1[k]).1) (h2 : m.2.1 = (w.2.2.1[k]).2.1) (h3 : m.2.2.1 = (w.2.2.1[k]).2.2.1) : eN n c ms (xV w k m) :=
 { h with
   len := by show (w.2.2.1.set k m).length = _; rw [List.length_set]; exact h.len
   ids := fun j hj Ac => by
     have hj : j < (w.2.2.1.set k m).length := hj; show ((w.2.2.1.set k m)[j]).1 = _; rw [List.getElem_set]; rw [List.length_set] at hj
     split
     · rename_i e; subst e; rw [h1]; exact h.ids k hk Ac
     · exact h.ids j hj Ac
   Cb := fun x hx => by
     have hx : x ∈ w.2.2.1.set k m := hx; rcases List.mem_or_eq_of_mem_set hx with hx | rfl
     · exact h.Cb x hx
     · have := h.Cb _ (List.getElem_mem hk); exact ⟨hm, h2.trans this.2.1, h3.trans this.2.2⟩ }
theorem eN.D1 {n : Nat} {c : Int} {ms : dA} {w : cH} (h : eN n c ms w) {l : List sL} (h1 : ∀ f ∈ l, Nb f) (h2 : l.length ≤ 400 * (n + 1)) : eN n c ms (oz w l) := { h with zD := h1, FL := h2 }
theorem BE {a : Int} {t : kz} (h : Bu t) : Nb (kC a t) := ⟨fun _ => h, fun e => (by cases e), h.2.2.2.2.2.1⟩
theorem C1 {ms : List ey} {id : Int} {l : aM} (h : ∀ x ∈ l, j5 x) : ∀ f ∈ gL ms id l, Nb f := by
 intro f hf; obtain ⟨m, _, x, hx, _, rfl⟩ := CZ hf; exact ⟨fun e => (by cases e), fun _ => h x hx, Nat.zero_le _⟩
theorem eN.HS {n : Nat} {c : Int} {ms : dA} {w : cH} (h : eN n c ms w) : w.2.2.1.length ≤ 5 ∧ w.2.1.length ≤ 5 ∧ ms.length ≤ 5 := by
 have := h.ring.2.1.2; have := h.len; rw [h.self.2]; omega
theorem HT {m : ey} (hm : sI m) {x : dz} (hx : j5 x) : sI (oI m (kT m.2.2.2.1 x)) := by
 have hi := (cA _ hm.items).1; have hp := Bw hm.items hx; have hi2 := (cA _ hp).1; have ha : cG m.2.2.2.1 ≤ cG (kT m.2.2.2.1 x) := FI (by omega) (by omega) fun r hr => ⟨r, yx hr, rfl⟩
 exact { hm with
   items := hp
   line := ⟨hm.line.1, by have := hm.line.2; show m.2.2.2.2.2.2.2.2.1 ≤ ((cG (kT m.2.2.2.1 x) : Nat) : Int); omega⟩
   heard := ⟨hm.heard.1, by have := hm.heard.2; show m.2.2.2.2.2.2.2.2.2.1 ≤ ((cG (kT m.2.2.2.1 x) : Nat) : Int); omega⟩ }
theorem JV {m : ey} (hm : sI m) {x : dz} (hx : j5 x) : Bx m x = oI m (kT m.2.2.2.1 x) := by
 have hi := (cA _ hm.items).1; unfold Bx MX; rw [(sJ m (Nat.le_trans hm.small (by decide))).2.2.2 hm, (uq _ (by omega)).2.2.2 hm.items, (zL x).2.2.2 hx]; rfl
theorem FP {ms : dA} (h : HH ms ms.length) {i j : Nat} (hj : j < ms.length) (NX : i < j) : (ms[i]'(by omega)).1 < ms[j].1 := by
 have key : ∀ (d i : Nat) (hi : i + d + 1 < ms.length), ms[i].1 < ms[i + d + 1].1 := by
   intro d
   induction d with
   | zero => intro i hi; exact (h (i + 1) hi hi).2 (by omega)
   | succ d ih =>
     intro i hi; have h1 := ih i (by omega); have h2 := (h (i + (d + 1) + 1) hi hi).2 (by omega); have e : i + (d + 1) + 1 - 1 = i + d + 1 := by omega
     simp only [e] at h2; omega
 have := key (j - i - 1) i (by omega); simpa [show i + (j - i - 1) + 1 = j by omega] using this
theorem IH {ms : dA} (h : HH ms ms.length) {i j : Nat} (hi : i < ms.length) (hj : j < ms.length) (e : ms[i].1 = ms[j].1) : i = j := by
 by_cases h1 : i < j
 · have := FP h hj h1; omega
 by_cases h2 : j < i
 · have := FP h hi h2; omega
 omega
theorem Nc {c : Int} {ms : dA} (hr : pH c ms) {k : Nat} (hk : k < ms.length) (hm : (k + 1) % ms.length < ms.length) : nV c ms ms[k].1 = ms[(k + 1) % ms.length].1 := by
 have hl := hr.2.1.2; have h := (qh c ms (by omega)).1; rw [(qh c ms (by omega)).2.2.2 hr] at h; obtain ⟨e, he, hq⟩ := eg (round := dN) (x := (ms[k].1, c, ms, ((0 : Nat) : Int), ())) ms.length (fun j x => x = (ms[k].1, c, ms, ((j : Nat) : Int), ()) ∧ j ≤ k) (fun e => e = .inr (ms[(k + 1) % ms.length].1, ())) (by
     rintro x ⟨_, g⟩
     omega) (by
     rintro j x hj ⟨rfl, g⟩
     simp only [dN, lr, az hj, aq, cond_true, aC, List.getElem?_eq_getElem hj, Option.bind_some, aJ (show j < 4611686018427387904 by omega), yy, ai (show ¬ ((List.length ms : Nat) : Int) = 0 by omega), cond_false]
     by_cases e : ms[j].1 = ms[k].1
     · have := IH hr.2.2 hj hk e; subst this; rw [ah e, List.getElem?_eq_getElem hm]; exact .inl ⟨_, rfl, rfl⟩
     · rw [ai e]; refine .inr ⟨_, rfl, rfl, ?_⟩
       by_cases e2 : j = k
       · subst e2; exact absurd rfl e
       · omega) ⟨rfl, Nat.zero_le _⟩
 have he : aE dN (ms[k].1, c, ms, (0 : Int), ()) = some e := he; subst hq; unfold nV bN; rw [h]; simp only [Option.bind_some, Bool.not_true, cond_false, he, cj]
structure Cc (R : Nat) (S : Int) (ms : dA) (f : sL) : Prop where
 tok : f.2.1 = true → ∃ r : Nat, 1 ≤ r ∧ r ≤ R ∧ f.2.2.2.1 = ((r : Nat) : Int) ∧ (∃ x, ms[(r - 1) % ms.length]? = some x ∧ f.1 = x.1) ∧ (r = R → f.2.2.2.2.1 = S)
 item : f.2.1 = false → f.2.2.2.2.2.2.2.2.1 ≤ S
structure uB (R : Nat) (S : Int) (len k : Nat) (m : ey) : Prop where
 items : ∀ x ∈ m.2.2.2.1, x.1 ≤ S
 last : ∃ q : Nat, m.2.2.2.2.2.2.1 = ((q : Nat) : Int) ∧ q < R ∧ (∀ r, 1 ≤ r → r < R → (r - 1) % len = k → r ≤ q) ∧ (Blank (mV m) ∨ (1 ≤ q ∧ (q - 1) % len = k ∧ (mV m).2.1 = ((q + 1 : Nat) : Int) ∧ (q + 1 = R → (mV m).2.2.1 = S)))
structure nQ (R : Nat) (S : Int) (ms : dA) (w : cH) : Prop where
 zD : ∀ f ∈ w.2.2.2.1, Cc R S ms f
 pX : ∀ k (hk : k < w.2.2.1.length), uB R S ms.length k w.2.2.1[k]
 said : ∀ x ∈ w.2.2.2.2.2.1, x.1 ≤ S
theorem nQ.Nd {R : Nat} {S : Int} {ms : dA} {w : cH} (h : nQ R S ms w) {k : Nat} (hk : k < w.2.2.1.length) {m : ey} (hm : uB R S ms.length k m) : nQ R S ms (xV w k m) :=
 { zD := h.zD
   said := h.said
   pX := fun j hj => by
     have hj : j < (w.2.2.1.set k m).length := hj; show uB R S ms.length j (w.2.2.1.set k m)[j]; rw [List.getElem_set]; rw [List.length_set] at hj
     split
     · rename_i e; subst e; exact hm
     · exact h.pX j hj }
theorem nQ.D1 {R : Nat} {S : Int} {ms : dA} {w : cH} (h : nQ R S ms w) {l : List sL} (hl : ∀ f ∈ l, Cc R S ms f) : nQ R S ms (oz w l) := { zD := hl, pX := h.pX, said := h.said }
theorem uB.same {R : Nat} {S : Int} {len k : Nat} {m m' : ey} (h : uB R S len k m) (h1 : m'.2.2.2.1 = m.2.2.2.1) (h2 : m'.2.2.2.2.2.2.1 = m.2.2.2.2.2.2.1) (h3 : mV m' = mV m) : uB R S len k m' := ⟨h1 ▸ h.items, by rw [h2, h3]; exact h.last⟩
theorem P5 {R : Nat} {S : Int} {ms : dA} {mt : List ey} {id : Int} {l : aM} (h : ∀ x ∈ l, x.1 ≤ S) : ∀ f ∈ gL mt id l, Cc R S ms f := by
 intro f hf; obtain ⟨m, _, x, hx, _, rfl⟩ := CZ hf; exact ⟨fun e => (by cases e), fun _ => h x hx⟩
theorem Nf {n q k : Nat} (h1 : 1 ≤ q) (h : (q - 1) % n = k) : (q + 1 - 1) % n = (k + 1) % n := by
 have : q = (q - 1) + 1 := by omega
 rw [Nat.add_sub_cancel, ← h, Nat.mod_add_mod, ← this]
theorem Xk {R : Nat} {S : Int} {c : Int} {ms : dA} (hr : pH c ms) {k : Nat} (hk : k < ms.length) {t : kz} {q : Nat} (h1 : 1 ≤ q) (hq : (q - 1) % ms.length = k) (hR : q + 1 ≤ R) (h2 : t.2.1 = ((q + 1 : Nat) : Int)) (h3 : q + 1 = R → t.2.2.1 = S) : Cc R S ms (kC (nV c ms ms[k].1) t) := by
 have hm : (k + 1) % ms.length < ms.length := Nat.mod_lt _ (by omega); refine ⟨fun _ => ⟨q + 1, by omega, hR, h2, ⟨ms[(k + 1) % ms.length], ?_, ?_⟩, h3⟩, fun e => (by cases e)⟩
 · rw [Nf h1 hq]; exact List.getElem?_eq_getElem hm
 · exact Nc hr hk hm
theorem JW {R : Nat} {S : Int} {n : Nat} {c : Int} {ms : dA} {w : cH} (h : eN n c ms w) (hR : nQ R S ms w) {k : Nat} (hk : k < w.2.2.1.length) (hb : ¬ Blank (mV w.2.2.1[k])) : nQ R S ms (uA w w.2.2.1[k]) := by
 have qC : k < ms.length := by rw [← h.len]; exact hk
 obtain ⟨q, q1, q2, q3, q4⟩ := (hR.pX k hk).last; refine hR.D1 fun f hf => ?_
 rcases List.mem_append.1 hf with hf | hf
 · rcases List.mem_append.1 hf with hf | hf
   · exact hR.zD f hf
   · rw [List.mem_singleton] at hf; subst hf; rcases q4 with q4 | ⟨g1, g2, g3, g4⟩
     · exact absurd q4 hb
     · rw [h.self.1, h.self.2, h.ids k hk qC]; exact Xk h.ring qC g1 g2 (by omega) g3 g4
 · exact P5 (fun x hx => (hR.pX k hk).items x (List.mem_filter.1 hx).1) f hf
theorem JX {R : Nat} {S : Int} {len k : Nat} {m : ey} (h : uB R S len k m) {x : dz} (hx : x.1 ≤ S) : uB R S len k (oI m (kT m.2.2.2.1 x)) :=
 ⟨fun y hy => by
   have hy : y ∈ kT m.2.2.2.1 x := hy; rcases uw hy with rfl | hy
   · exact hx
   · exact h.items y hy, h.last⟩
theorem JY {R : Nat} {S : Int} {n : Nat} {c : Int} {ms : dA} {w : cH} (h : eN n c ms w) (hR : nQ R S ms w) {f : sL} (hf : Cc R S ms f) (ht : f.2.1 = true) {k : Nat} (hk : k < w.2.2.1.length) (yW : (w.2.2.1[k]).1 = f.1) (hr : (w.2.2.1[k]).2.2.2.2.2.2.1 < f.2.2.2.1) : 1 ≤ R ∧ (R - 1) % ms.length = k ∧ f.2.2.2.1 = ((R : Nat) : Int) ∧ f.2.2.2.2.1 = S := by
 have qC : k < ms.length := by rw [← h.len]; exact hk
 obtain ⟨r, r1, r2, r3, ⟨x, x1, x2⟩, r4⟩ := hf.tok ht; obtain ⟨q, q1, q2, q3, _⟩ := (hR.pX k hk).last; have hm : (r - 1) % ms.length < ms.length := Nat.mod_lt _ (by omega); rw [List.getElem?_eq_getElem hm] at x1; injection x1 with x1; have hi : (r - 1) % ms.length = k := IH h.ring.2.2 hm qC (by rw [x1, ← x2, ← yW, h.ids k hk qC])
 by_cases e : r < R
 · have := q3 r r1 e hi; omega
 · have : r = R := by omega
   subst this; exact ⟨r1, hi, r3, r4 rfl⟩
def D2 (ms : dA) (w w' : cH) : Prop := ∀ R S, nQ R S ms w → ∃ R' S', nQ R' S' ms w'
theorem Cc.up {R : Nat} {S : Int} {ms : dA} {f : sL} (h : Cc R S ms f) {j : Nat} : Cc (R + 1) (S + ((j : Nat) : Int)) ms f :=
 ⟨fun e => by
   obtain ⟨r, r1, r2, r3, r4, _⟩ := h.tok e; exact ⟨r, r1, by omega, r3, r4, fun h => by omega⟩, fun e => by have := h.item e; omega⟩
end Go.TM
