/- What a member does that holds a token. -/
import Derived.Test.YtlgnmloddedbaaaGreatCPHoldL
set_option linter.unusedSimpArgs false
set_option linter.unusedVariables false
namespace Go.TM
open Go
theorem pH.id {m : bt} (h : pH m) : 1 ≤ m.1 ∧ m.1 ≤ 5 := by
 obtain ⟨k, hk, e⟩ := List.mem_iff_getElem.1 h.mem; have := (h.ring.2.2 k hk hk).1; rw [e] at this; exact this
theorem K0 {list : aG} {xs : bV} {ms : List Int} {c c2 : Int} (hx : uP c xs xs.length) (hc : c ≤ c2) (hm : ∀ s ∈ ms, 1 ≤ s ∧ s ≤ c2) : uP c2 (aO (jN list xs ms)) (aO (jN list xs ms)).length := by
 have hp : (jN list xs ms).Pairwise (· < ·) := List.Pairwise.sublist (List.take_sublist _ _) (List.Pairwise.filter _ (BY 60)); have zh : ∀ s ∈ jN list xs ms, 1 ≤ s ∧ s ≤ c2 := by
   intro s hs; have h1 := List.mem_of_mem_take hs; have h2 := (List.mem_filter.1 h1).2; unfold gi at h2; rw [Bool.or_eq_true, Bool.and_eq_true, decide_eq_true_eq, decide_eq_true_eq] at h2; rcases h2 with ⟨_, h2⟩ | h2
   · unfold aZ at h2; obtain ⟨r, hr, rfl⟩ := List.mem_map.1 h2; obtain ⟨k, hk, rfl⟩ := List.mem_iff_getElem.1 hr; have := hx k hk hk; exact ⟨this.1, by omega⟩
   · exact hm s h2
 intro k hk _; have Cb : k < (jN list xs ms).length := by rwa [bQ] at hk
 have e : ∀ j (hj : j < (aO (jN list xs ms)).length) (hj' : j < (jN list xs ms).length), (aO (jN list xs ms))[j].1 = (jN list xs ms)[j] := by intro j hj hj'; simp [aO]
 rw [e k hk Cb]; refine ⟨(zh _ (List.getElem_mem Cb)).1, (zh _ (List.getElem_mem Cb)).2, fun h0 => ?_⟩; rw [e (k - 1) (by omega) (by omega)]; exact List.pairwise_iff_getElem.1 hp (k - 1) k (by omega) Cb (by omega)
theorem u5.drop {l : bV} (h : u5 l l.length) (k : Nat) : u5 (l.drop k) (l.drop k).length := by
 intro j hj _; rw [List.getElem_drop]; rw [List.length_drop] at hj; exact h (k + j) (by omega) (by omega)
theorem jd.drop {l : List (ByteArray × Unit)} (h : jd l l.length) (k : Nat) : jd (l.drop k) (l.drop k).length := by
 intro j hj _; rw [List.getElem_drop]; rw [List.length_drop] at hj; exact h (k + j) (by omega) (by omega)
structure NO (m : bt) (t : jZ) (n : bt) (said : aG) (k : Nat) (nx : jZ) : Prop where
 vn : k ≤ 3 ∧ k ≤ m.2.2.2.2.2.1.length ∧ t.2.2.1 + ((k : Nat) : Int) ≤ 60
 said : said = sm t m.2.2.2.1 ++ cK t.2.2.1 m.1 m.2.2.2.2.1 m.2.2.2.2.2.1 k
 id : n.1 = m.1 ∧ n.2.1 = m.2.1 ∧ n.2.2.1 = m.2.2.1
 items : n.2.2.2.1 = bq m.2.2.2.1 (cK t.2.2.1 m.1 m.2.2.2.2.1 m.2.2.2.2.2.1 k)
 words : n.2.2.2.2.1 = m.2.2.2.2.1.drop k ∧ n.2.2.2.2.2.1 = m.2.2.2.2.2.1.drop k
 round : n.2.2.2.2.2.2.1 = t.2.1 ∧ n.2.2.2.2.2.2.2.1 = t.2.2.2.1 ∧ m.2.2.2.2.2.2.2.2.1 ≤ n.2.2.2.2.2.2.2.2.1 ∧ n.2.2.2.2.2.2.2.2.2.1 = m.2.2.2.2.2.2.2.2.2.1
 last : (n.2.2.2.2.2.2.2.2.2.2.1, n.2.2.2.2.2.2.2.2.2.2.2.1, n.2.2.2.2.2.2.2.2.2.2.2.2.1, n.2.2.2.2.2.2.2.2.2.2.2.2.2.1, n.2.2.2.2.2.2.2.2.2.2.2.2.2.2.1, n.2.2.2.2.2.2.2.2.2.2.2.2.2.2.2.1, ()) = nx
 nq : pH n
 tq : z7 nx
 next : nx.1 = t.1 ∧ nx.2.1 = t.2.1 + 1 ∧ nx.2.2.1 = t.2.2.1 + ((k : Nat) : Int)
 ajt : k = min 3 m.2.2.2.2.2.1.length ∨ t.2.2.1 + ((k : Nat) : Int) = 60
 marks : nx.2.2.2.1 = wF (t.2.2.1 + ((k : Nat) : Int)) (if t.2.2.2.1 = t.2.2.1 ∧ t.2.2.2.2.1 = 0 then t.2.2.1 + ((k : Nat) : Int) else t.2.2.2.1) t.2.2.2.2.1 m.1 ((bE n.2.2.2.1 : Nat) : Int) ∧ nx.2.2.2.2.1 = wG (t.2.2.1 + ((k : Nat) : Int)) (if t.2.2.2.1 = t.2.2.1 ∧ t.2.2.2.2.1 = 0 then t.2.2.1 + ((k : Nat) : Int) else t.2.2.2.1) t.2.2.2.2.1 m.1 ((bE n.2.2.2.1 : Nat) : Int)
 line : n.2.2.2.2.2.2.2.2.1 = m.2.2.2.2.2.2.2.2.1 ∨ (n.2.2.2.2.2.2.2.2.1 ≤ m.2.2.2.2.2.2.2.1 ∧ n.2.2.2.2.2.2.2.2.1 ≤ t.2.2.2.1 ∧ n.2.2.2.2.2.2.2.2.1 ≤ ((bE n.2.2.2.1 : Nat) : Int))
 adm : ∀ s ∈ aZ nx.2.2.2.2.2.1, hasB n.2.2.2.1 s = false
theorem L0 (m : bt) (t : jZ) (hm : pH m) (ht : z7 t) (hc : t.1 = m.2.1) (hr1 : m.2.2.2.2.2.2.1 < t.2.1) (hr2 : t.2.1 < 1000000000) :
   ∃ (n : bt) (said : aG) (k : Nat) (nx : jZ), NO m t n said k nx ∧ qw m.1 m.2.1 m.2.2.1 m.2.2.2.1 m.2.2.2.2.1 m.2.2.2.2.2.1 m.2.2.2.2.2.2.1 m.2.2.2.2.2.2.2.1 m.2.2.2.2.2.2.2.2.1 m.2.2.2.2.2.2.2.2.2.1 m.2.2.2.2.2.2.2.2.2.2.1 m.2.2.2.2.2.2.2.2.2.2.2.1 m.2.2.2.2.2.2.2.2.2.2.2.2.1 m.2.2.2.2.2.2.2.2.2.2.2.2.2.1 m.2.2.2.2.2.2.2.2.2.2.2.2.2.2.1 m.2.2.2.2.2.2.2.2.2.2.2.2.2.2.2.1 t.1 t.2.1 t.2.2.1 t.2.2.2.1 t.2.2.2.2.1 t.2.2.2.2.2.1 = some (n.1, n.2.1, n.2.2.1, n.2.2.2.1, n.2.2.2.2.1, n.2.2.2.2.2.1, n.2.2.2.2.2.2.1, n.2.2.2.2.2.2.2.1, n.2.2.2.2.2.2.2.2.1, n.2.2.2.2.2.2.2.2.2.1, n.2.2.2.2.2.2.2.2.2.2.1, n.2.2.2.2.2.2.2.2.2.2.2.1, n.2.2.2.2.2.2.2.2.2.2.2.2.1, n.2.2.2.2.2.2.2.2.2.2.2.2.2.1, n.2.2.2.2.2.2.2.2.2.2.2.2.2.2.1, n.2.2.2.2.2.2.2.2.2.2.2.2.2.2.2.1, said, ((k : Nat) : Int), nx.1, nx.2.1, nx.2.2.1, nx.2.2.2.1, nx.2.2.2.2.1, nx.2.2.2.2.2.1, true, ()) ∧ qv m.1 m.2.1 m.2.2.1 m.2.2.2.1 m.2.2.2.2.1 m.2.2.2.2.2.1 m.2.2.2.2.2.2.1 m.2.2.2.2.2.2.2.1 m.2.2.2.2.2.2.2.2.1 m.2.2.2.2.2.2.2.2.2.1 m.2.2.2.2.2.2.2.2.2.2.1 m.2.2.2.2.2.2.2.2.2.2.2.1 m.2.2.2.2.2.2.2.2.2.2.2.2.1 m.2.2.2.2.2.2.2.2.2.2.2.2.2.1 m.2.2.2.2.2.2.2.2.2.2.2.2.2.2.1 m.2.2.2.2.2.2.2.2.2.2.2.2.2.2.2.1 t.1 t.2.1 t.2.2.1 t.2.2.2.1 t.2.2.2.2.1 t.2.2.2.2.2.1 = some (n.1, n.2.1, n.2.2.1, n.2.2.2.1, n.2.2.2.2.1, n.2.2.2.2.2.1, n.2.2.2.2.2.2.1, n.2.2.2.2.2.2.2.1, n.2.2.2.2.2.2.2.2.1, n.2.2.2.2.2.2.2.2.2.1, n.2.2.2.2.2.2.2.2.2.2.1, n.2.2.2.2.2.2.2.2.2.2.2.1, n.2.2.2.2.2.2.2.2.2.2.2.2.1, n.2.2.2.2.2.2.2.2.2.2.2.2.2.1, n.2.2.2.2.2.2.2.2.2.2.2.2.2.2.1, n.2.2.2.2.2.2.2.2.2.2.2.2.2.2.2.1, said, nx.1, nx.2.1, nx.2.2.1, nx.2.2.2.1, nx.2.2.2.2.1, nx.2.2.2.2.2.1, true, ()) := by
 have pM := hm.id; have hW := hm.small; have hw := hW; unfold Ch at hw; have hwl : t.2.2.2.2.2.1.length ≤ 20 := ht.2.2.2.2.2.1; obtain ⟨k, t3, hN, q1, q2, q3, q4, q5, q6⟩ := KV t.1 t.2.1 t.2.2.1 t.2.2.2.1 t.2.2.2.2.1 t.2.2.2.2.2.1 m.1 m.2.2.2.2.1 m.2.2.2.2.2.1 (by omega) (by omega) pM ht; obtain ⟨o0, o1, o2, o3, o4, o5, o6, s1, s2, _⟩ := G3 t.1 t.2.1 t.2.2.1 t.2.2.2.1 t.2.2.2.2.1 t.2.2.2.2.2.1 m.1 m.2.2.2.2.1 m.2.2.2.2.2.1 (by omega); rw [hN] at s2; injection s2 with s2; simp only [Prod.mk.injEq] at s2; obtain ⟨rfl, rfl, rfl, rfl, rfl, rfl, rfl, _⟩ := s2; have hF : ∀ f ∈ cK t.2.2.1 m.1 m.2.2.2.2.1 m.2.2.2.2.2.1 k, lD f := BZ ⟨ht.2.2.1.1, q3⟩ pM q2 hm.short; have hFl := eU t.2.2.1 m.1 m.2.2.2.2.1 m.2.2.2.2.2.1 k; generalize hFF : cK t.2.2.1 m.1 m.2.2.2.2.1 m.2.2.2.2.2.1 k = F at *; subst hFl; have hi := qk F hm.items hF; have his := bj _ hi; have anu := bj _ hm.items; obtain ⟨a1, a2, _⟩ := rC (bq m.2.2.2.1 F) (by omega); have akU : bE m.2.2.2.1 ≤ bE (bq m.2.2.2.1 F) := Ad (by omega) (by omega) fun r hr => ⟨r, wI F hr, rfl⟩
 obtain ⟨z0, z1, z2, z3, z4, z5, z6⟩ := ht; have Hr : uP (t.2.2.1 + ((List.length F : Nat) : Int)) t.2.2.2.2.2.1 t.2.2.2.2.2.1.length := fun j hj IA => by
   have := z6 j hj IA; exact ⟨this.1, by omega, this.2.2⟩
 have ht3 : 0 ≤ t3 ∧ t3 ≤ t.2.2.1 + ((List.length F : Nat) : Int) := by
   have z3a := z3.1; have z3b := z3.2; have z2a := z2.1; rcases q4 with e | e <;> rw [e] <;> omega
 have htq : z7 (t.1, t.2.1, t.2.2.1 + ((List.length F : Nat) : Int), t3, t.2.2.2.2.1, t.2.2.2.2.2.1, ()) := ⟨z0, z1, ⟨by show 0 ≤ t.2.2.1 + _; omega, q3⟩, ht3, z4, z5, Hr⟩; obtain ⟨u1, _, u3⟩ := A8 (t.1, t.2.1, t.2.2.1 + ((List.length F : Nat) : Int), t3, t.2.2.2.2.1, t.2.2.2.2.2.1, ()) (by show t.2.2.2.2.2.1.length ≤ _; omega); rw [u3.2 htq] at u1; obtain ⟨Yv, SL, m1, m2, _, m4, m5⟩ := QE t.1 t.2.1 (t.2.2.1 + ((List.length F : Nat) : Int)) t3 t.2.2.2.2.1 t.2.2.2.2.2.1 m.1 ((bE (bq m.2.2.2.1 F) : Nat) : Int) (by omega) u1; have m4 := m4 rfl pM.1 pM.2 (by omega) htq.2.2.2.1.1 htq.2.2.2.1.2; have m5 := m5 rfl pM.1 pM.2 (by omega); obtain ⟨ms, l1, l2, l3, l4⟩ := I2 (bq m.2.2.2.1 F) (t.2.2.1 + ((List.length F : Nat) : Int)) (by omega); have ls := KX t.1 t.2.1 (t.2.2.1 + ((List.length F : Nat) : Int)) Yv SL t.2.2.2.2.2.1 (bq m.2.2.2.1 F) ms (by omega) (by omega) l1 l3; have li := KY t.1 t.2.1 (t.2.2.1 + ((List.length F : Nat) : Int)) Yv SL t.2.2.2.2.2.1 (bq m.2.2.2.1 F) ms (by omega) (by omega) l2 l3 (fun s hs => ⟨(l4 s hs).1, (l4 s hs).2.1.1, (l4 s hs).2.2⟩); have hlw : uP (t.2.2.1 + ((List.length F : Nat) : Int)) (aO (jN (bq m.2.2.2.1 F) t.2.2.2.2.2.1 ms)) (aO (jN (bq m.2.2.2.1 F) t.2.2.2.2.2.1 ms)).length := K0 z6 (by omega) fun s hs => ⟨(l4 s hs).1, (l4 s hs).2.1.2⟩
 have hll : (aO (jN (bq m.2.2.2.1 F) t.2.2.2.2.2.1 ms)).length ≤ 20 := by
   rw [bQ]; unfold jN; rw [List.length_take]; omega
 have hlk : ∀ s ∈ aZ (aO (jN (bq m.2.2.2.1 F) t.2.2.2.2.2.1 ms)), hasB (bq m.2.2.2.1 F) s = false := by
   rw [oC]; intro s hs; have h2 := (List.mem_filter.1 (List.mem_of_mem_take hs)).2; unfold gi at h2; rw [Bool.or_eq_true, Bool.and_eq_true, decide_eq_true_eq, decide_eq_true_eq] at h2; rcases h2 with ⟨h2, _⟩ | h2
   · simpa using h2
   · exact (l4 s h2).2.2
 generalize aO (jN (bq m.2.2.2.1 F) t.2.2.2.2.2.1 ms) = W at *; have SM : IntKind.i64.wrap (t.2.1 + (1 : Int)) = t.2.1 + 1 := fP (by omega) (by omega); obtain ⟨c1, c2⟩ := fY t.1 (t.2.1 + 1) (t.2.2.1 + ((List.length F : Nat) : Int)) Yv SL W (by omega); have AR : Ch m ≤ 1048576 := by omega
 obtain ⟨kb1, kb2, kb3⟩ := uQ m AR; rw [kb3.2 hm] at kb1 kb2; obtain ⟨kt1, kt2, kt3⟩ := A8 t (by omega); rw [kt3.2 ⟨z0, z1, z2, z3, z4, z5, z6⟩] at kt1 kt2; obtain ⟨p1, p2⟩ := mm m.1 m.2.1 m.2.2.1 m.2.2.2.1 m.2.2.2.2.1 m.2.2.2.2.2.1 m.2.2.2.2.2.2.1 m.2.2.2.2.2.2.2.1 m.2.2.2.2.2.2.2.2.1 m.2.2.2.2.2.2.2.2.2.1 m.2.2.2.2.2.2.2.2.2.2.1 m.2.2.2.2.2.2.2.2.2.2.2.1 m.2.2.2.2.2.2.2.2.2.2.2.2.1 m.2.2.2.2.2.2.2.2.2.2.2.2.2.1 m.2.2.2.2.2.2.2.2.2.2.2.2.2.2.1 m.2.2.2.2.2.2.2.2.2.2.2.2.2.2.2.1 AR; obtain ⟨g1, g2⟩ := QH t m.2.2.2.1 (by omega) (by omega); have hgl := Ed t m.2.2.2.1; have htx := hm.texts; generalize hLN : (if (if ((bE (bq m.2.2.2.1 F) : Nat) : Int) < (if t.2.2.2.1 < m.2.2.2.2.2.2.2.1 then t.2.2.2.1 else m.2.2.2.2.2.2.2.1) then ((bE (bq m.2.2.2.1 F) : Nat) : Int) else (if t.2.2.2.1 < m.2.2.2.2.2.2.2.1 then t.2.2.2.1 else m.2.2.2.2.2.2.2.1)) > m.2.2.2.2.2.2.2.2.1 then (if ((bE (bq m.2.2.2.1 F) : Nat) : Int) < (if t.2.2.2.1 < m.2.2.2.2.2.2.2.1 then t.2.2.2.1 else m.2.2.2.2.2.2.2.1) then ((bE (bq m.2.2.2.1 F) : Nat) : Int) else (if t.2.2.2.1 < m.2.2.2.2.2.2.2.1 then t.2.2.2.1 else m.2.2.2.2.2.2.2.1)) else m.2.2.2.2.2.2.2.2.1) = line; have hle : m.2.2.2.2.2.2.2.2.1 ≤ line := by
   rw [← hLN]
   split <;> omega
 have hnx : z7 (t.1, t.2.1 + 1, t.2.2.1 + ((List.length F : Nat) : Int), Yv, SL, W, ()) := ⟨z0, ⟨by show 1 ≤ t.2.1 + 1; omega, by show t.2.1 + 1 ≤ 1000000000; omega⟩, ⟨by show 0 ≤ t.2.2.1 + _; have := z2.1; omega, q3⟩, ⟨m4.1, m4.2.1⟩, by
   have z4a := z4.1; have z4b := z4.2; show 0 ≤ SL ∧ SL ≤ 5; rcases m4.2.2.2.2 with e | e | ⟨e, _⟩ <;> rw [e] <;> omega, hll, hlw⟩
 refine ⟨(m.1, m.2.1, m.2.2.1, bq m.2.2.2.1 F, m.2.2.2.2.1.drop F.length, m.2.2.2.2.2.1.drop F.length, t.2.1, t.2.2.2.1, line, m.2.2.2.2.2.2.2.2.2.1, t.1, t.2.1 + 1, t.2.2.1 + ((List.length F : Nat) : Int), Yv, SL, W, ()), sm t m.2.2.2.1 ++ F, F.length, (t.1, t.2.1 + 1, t.2.2.1 + ((List.length F : Nat) : Int), Yv, SL, W, ()), ?_, ?_, ?_⟩
 · have hn : pH (m.1, m.2.1, m.2.2.1, bq m.2.2.2.1 F, m.2.2.2.2.1.drop F.length, m.2.2.2.2.2.1.drop F.length, t.2.1, t.2.2.2.1, line, m.2.2.2.2.2.2.2.2.2.1, t.1, t.2.1 + 1, t.2.2.1 + ((List.length F : Nat) : Int), Yv, SL, W, ()) := {
     ring := hm.ring
     mem := hm.mem
     items := hi
     texts := ⟨by show (m.2.2.2.2.2.1.drop F.length).length ≤ 20; rw [List.length_drop]; omega, by show (m.2.2.2.2.1.drop F.length).length = (m.2.2.2.2.2.1.drop F.length).length; rw [List.length_drop, List.length_drop]; omega⟩
     Og := hm.Og.drop _
     short := hm.short.drop _
     round := ⟨by show 0 ≤ t.2.1; omega, by show t.2.1 ≤ 1000000000; omega⟩
     seen := ⟨z3.1, by show t.2.2.2.1 ≤ 60; have := z3.2; omega⟩
     line := by
       have hl := hm.line; have hs := hm.seen; have ha := z3.1; show 0 ≤ line ∧ line ≤ ((bE (bq m.2.2.2.1 F) : Nat) : Int); rw [← hLN]
       split <;> split <;> (try split) <;> omega
     heard := by
       have hl := hm.heard; show 0 ≤ m.2.2.2.2.2.2.2.2.2.1 ∧ m.2.2.2.2.2.2.2.2.2.1 ≤ ((bE (bq m.2.2.2.1 F) : Nat) : Int); omega
     last := .inr hnx }
   have ado : F.length = min 3 m.2.2.2.2.2.1.length ∨ t.2.2.1 + ((F.length : Nat) : Int) = 60 := by
     rcases q5 with h | h | ⟨h, h'⟩
     · exact .inl h
     · exact .inr (by omega)
     · have := hm.short _ h h; omega
   have Ue : line = m.2.2.2.2.2.2.2.2.1 ∨ (line ≤ m.2.2.2.2.2.2.2.1 ∧ line ≤ t.2.2.2.1 ∧ line ≤ ((bE (bq m.2.2.2.1 F) : Nat) : Int)) := by
     rw [← hLN]
     split <;> split <;> (try split) <;> omega
   exact { vn := ⟨q1, q2, q3⟩, said := by rw [hFF], id := ⟨rfl, rfl, rfl⟩, items := by rw [hFF], words := ⟨rfl, rfl⟩, round := ⟨rfl, rfl, hle, rfl⟩, last := rfl, nq := hn, tq := hnx, next := ⟨rfl, rfl, rfl⟩, ajt := ado, marks := ⟨m5.1.trans (by rw [q6]), m5.2.trans (by rw [q6])⟩, line := Ue, adm := hlk }
 · unfold qw
   try simp only [bZ]
   simp only [af hc, ai (show ¬ t.2.1 ≤ m.2.2.2.2.2.2.1 by omega), ai (show ¬ (1000000000 : Int) ≤ t.2.1 by omega), kb2, kt2, p2, g2, hN, Option.bind_some, Bool.not_true, cond_false, cond_true, ak, au, af (show ((List.length F : Nat) : Int) ≤ ((List.length m.2.2.2.2.1 : Nat) : Int) by omega), af (show ((List.length F : Nat) : Int) ≤ ((List.length m.2.2.2.2.2.1 : Nat) : Int) by omega)]; rw [Ee (hx := hm.items) (hf := hF) (hn := by omega) ..]; simp only [gG, a2, m2, li, SM, c2, Option.bind_some, hLN]; rw [aF (show ((sm t m.2.2.2.1).length + F.length) * 40 ≤ lim by unfold lim; omega)]; rfl
 · subst hLN; unfold qv
   try simp only [bZ]
   simp only [af hc, ai (show ¬ t.2.1 ≤ m.2.2.2.2.2.2.1 by omega), ai (show ¬ (1000000000 : Int) ≤ t.2.1 by omega), kb1, kt1, p1, g1, s1, Option.bind_some, Bool.not_true, cond_false, cond_true, ak, au, af (show ((List.length F : Nat) : Int) ≤ ((List.length m.2.2.2.2.1 : Nat) : Int) by omega), af (show ((List.length F : Nat) : Int) ≤ ((List.length m.2.2.2.2.2.1 : Nat) : Int) by omega),
     aF (show (0 + (sm t m.2.2.2.1).length) * 40 ≤ lim by unfold lim; omega), aF (show (0 + (List.drop F.length m.2.2.2.2.1).length) * 8 ≤ lim by rw [List.length_drop]; unfold lim; omega), aF (show (0 + (List.drop F.length m.2.2.2.2.2.1).length) * 16 ≤ lim by rw [List.length_drop]; unfold lim; omega), List.nil_append]
   rw [Ef (hx := hm.items) (hf := hF) (hn := by omega) ..]; simp only [gG, a1, m1, Option.bind_some, aF (show ((sm t m.2.2.2.1).length + F.length) * 40 ≤ lim by unfold lim; omega), cond_true]
   by_cases h1 : t.2.2.2.1 < m.2.2.2.2.2.2.2.1
   · rw [af h1, if_pos h1]; simp only [cond_true]
     by_cases h2 : ((bE (bq m.2.2.2.1 F) : Nat) : Int) < t.2.2.2.1
     · rw [af h2, if_pos h2]; simp only [cond_true]
       by_cases h3 : m.2.2.2.2.2.2.2.2.1 < ((bE (bq m.2.2.2.1 F) : Nat) : Int)
       · rw [af h3, if_pos (show ((bE (bq m.2.2.2.1 F) : Nat) : Int) > m.2.2.2.2.2.2.2.2.1 from h3)]; simp only [cond_true, ls, SM, c1, Option.bind_some]
       · rw [ai h3, if_neg (show ¬ ((bE (bq m.2.2.2.1 F) : Nat) : Int) > m.2.2.2.2.2.2.2.2.1 from h3)]; simp only [cond_false, ls, SM, c1, Option.bind_some]
     · rw [ai h2, if_neg h2]; simp only [cond_false]
       by_cases h3 : m.2.2.2.2.2.2.2.2.1 < t.2.2.2.1
       · rw [af h3, if_pos (show t.2.2.2.1 > m.2.2.2.2.2.2.2.2.1 from h3)]; simp only [cond_true, ls, SM, c1, Option.bind_some]
       · rw [ai h3, if_neg (show ¬ t.2.2.2.1 > m.2.2.2.2.2.2.2.2.1 from h3)]; simp only [cond_false, ls, SM, c1, Option.bind_some]
   · rw [ai h1, if_neg h1]; simp only [cond_false]
     by_cases h2 : ((bE (bq m.2.2.2.1 F) : Nat) : Int) < m.2.2.2.2.2.2.2.1
     · rw [af h2, if_pos h2]; simp only [cond_true]
       by_cases h3 : m.2.2.2.2.2.2.2.2.1 < ((bE (bq m.2.2.2.1 F) : Nat) : Int)
       · rw [af h3, if_pos (show ((bE (bq m.2.2.2.1 F) : Nat) : Int) > m.2.2.2.2.2.2.2.2.1 from h3)]; simp only [cond_true, ls, SM, c1, Option.bind_some]
       · rw [ai h3, if_neg (show ¬ ((bE (bq m.2.2.2.1 F) : Nat) : Int) > m.2.2.2.2.2.2.2.2.1 from h3)]; simp only [cond_false, ls, SM, c1, Option.bind_some]
     · rw [ai h2, if_neg h2]; simp only [cond_false]
       by_cases h3 : m.2.2.2.2.2.2.2.2.1 < m.2.2.2.2.2.2.2.1
       · rw [af h3, if_pos (show m.2.2.2.2.2.2.2.1 > m.2.2.2.2.2.2.2.2.1 from h3)]; simp only [cond_true, ls, SM, c1, Option.bind_some]
       · rw [ai h3, if_neg (show ¬ m.2.2.2.2.2.2.2.1 > m.2.2.2.2.2.2.2.2.1 from h3)]; simp only [cond_false, ls, SM, c1, Option.bind_some]
noncomputable def Gc (m : bt) (t : jZ) : Bool := wD m && (EV t && (decide (t.1 = m.2.1) && (decide (m.2.2.2.2.2.2.1 < t.2.1) && decide (t.2.1 < 1000000000))))
theorem L1 (m : bt) (t : jZ) (h : Ch m ≤ 1048576) (hw : t.2.2.2.2.2.1.length ≤ 1048576) (hn : Gc m t = false) : qw m.1 m.2.1 m.2.2.1 m.2.2.2.1 m.2.2.2.2.1 m.2.2.2.2.2.1 m.2.2.2.2.2.2.1 m.2.2.2.2.2.2.2.1 m.2.2.2.2.2.2.2.2.1 m.2.2.2.2.2.2.2.2.2.1 m.2.2.2.2.2.2.2.2.2.2.1 m.2.2.2.2.2.2.2.2.2.2.2.1 m.2.2.2.2.2.2.2.2.2.2.2.2.1 m.2.2.2.2.2.2.2.2.2.2.2.2.2.1 m.2.2.2.2.2.2.2.2.2.2.2.2.2.2.1 m.2.2.2.2.2.2.2.2.2.2.2.2.2.2.2.1 t.1 t.2.1 t.2.2.1 t.2.2.2.1 t.2.2.2.2.1 t.2.2.2.2.2.1 = some ((0 : Int), (0 : Int), [], [], [], [], (0 : Int), (0 : Int), (0 : Int), (0 : Int), (0 : Int), (0 : Int), (0 : Int), (0 : Int), (0 : Int), [], [], (0 : Int), (0 : Int), (0 : Int), (0 : Int), (0 : Int), (0 : Int), [], false, ()) ∧
   qv m.1 m.2.1 m.2.2.1 m.2.2.2.1 m.2.2.2.2.1 m.2.2.2.2.2.1 m.2.2.2.2.2.2.1 m.2.2.2.2.2.2.2.1 m.2.2.2.2.2.2.2.2.1 m.2.2.2.2.2.2.2.2.2.1 m.2.2.2.2.2.2.2.2.2.2.1 m.2.2.2.2.2.2.2.2.2.2.2.1 m.2.2.2.2.2.2.2.2.2.2.2.2.1 m.2.2.2.2.2.2.2.2.2.2.2.2.2.1 m.2.2.2.2.2.2.2.2.2.2.2.2.2.2.1 m.2.2.2.2.2.2.2.2.2.2.2.2.2.2.2.1 t.1 t.2.1 t.2.2.1 t.2.2.2.1 t.2.2.2.2.1 t.2.2.2.2.2.1 = some (m.1, m.2.1, m.2.2.1, m.2.2.2.1, m.2.2.2.2.1, m.2.2.2.2.2.1, m.2.2.2.2.2.2.1, m.2.2.2.2.2.2.2.1, m.2.2.2.2.2.2.2.2.1, m.2.2.2.2.2.2.2.2.2.1, m.2.2.2.2.2.2.2.2.2.2.1, m.2.2.2.2.2.2.2.2.2.2.2.1, m.2.2.2.2.2.2.2.2.2.2.2.2.1, m.2.2.2.2.2.2.2.2.2.2.2.2.2.1, m.2.2.2.2.2.2.2.2.2.2.2.2.2.2.1, m.2.2.2.2.2.2.2.2.2.2.2.2.2.2.2.1, [], (0 : Int), (0 : Int), (0 : Int), (0 : Int), (0 : Int), [], false, ()) := by
 obtain ⟨k1, k2, _⟩ := uQ m h; obtain ⟨t1, t2, _⟩ := A8 t hw; obtain ⟨p1, _⟩ := mm m.1 m.2.1 m.2.2.1 m.2.2.2.1 m.2.2.2.2.1 m.2.2.2.2.2.1 m.2.2.2.2.2.2.1 m.2.2.2.2.2.2.2.1 m.2.2.2.2.2.2.2.2.1 m.2.2.2.2.2.2.2.2.2.1 m.2.2.2.2.2.2.2.2.2.2.1 m.2.2.2.2.2.2.2.2.2.2.2.1 m.2.2.2.2.2.2.2.2.2.2.2.2.1 m.2.2.2.2.2.2.2.2.2.2.2.2.2.1 m.2.2.2.2.2.2.2.2.2.2.2.2.2.2.1 m.2.2.2.2.2.2.2.2.2.2.2.2.2.2.2.1 h; unfold Gc at hn
 constructor
 · unfold qw
   try simp only [bZ]
   by_cases a1 : t.1 = m.2.1
   case neg => rw [ai a1]; rfl
   by_cases a2 : m.2.2.2.2.2.2.1 < t.2.1
   case neg => rw [af a1, af (show t.2.1 ≤ m.2.2.2.2.2.2.1 by omega)]; rfl
   by_cases a3 : t.2.1 < 1000000000
   case neg => rw [af a1, ai (show ¬ t.2.1 ≤ m.2.2.2.2.2.2.1 by omega), af (show (1000000000 : Int) ≤ t.2.1 by omega)]; rfl
   rw [af a1, af a2, af a3] at hn; rw [af a1, ai (show ¬ t.2.1 ≤ m.2.2.2.2.2.2.1 by omega), ai (show ¬ (1000000000 : Int) ≤ t.2.1 by omega)]; simp only [Bool.not_true, cond_false, k2, Option.bind_some]
   cases hb : wD m
   · rfl
   · rw [hb] at hn
     cases hc : EV t
     · simp only [t2, hc, Bool.not_true, cond_false, Option.bind_some]; rfl
     · rw [hc] at hn; cases hn
 · unfold qv
   try simp only [bZ]
   simp only [p1, k1, Option.bind_some]
   cases hb : wD m
   · rfl
   simp only [Bool.not_true, cond_false, t1, Option.bind_some]
   cases hc : EV t
   · rfl
   by_cases a1 : t.1 = m.2.1
   case neg => rw [ai a1]; rfl
   by_cases a2 : m.2.2.2.2.2.2.1 < t.2.1
   case neg => rw [af a1, af (show t.2.1 ≤ m.2.2.2.2.2.2.1 by omega)]; rfl
   by_cases a3 : t.2.1 < 1000000000
   case neg => rw [af a1, ai (show ¬ t.2.1 ≤ m.2.2.2.2.2.2.1 by omega), af (show (1000000000 : Int) ≤ t.2.1 by omega)]; rfl
   rw [af a1, af a2, af a3, hb, hc] at hn
   cases hn
end Go.TM
set_option linter.unusedSimpArgs false
set_option linter.unusedVariables false
namespace Go.TM
open Go
def SN : bt := (0, 0, [], [], [], [], 0, 0, 0, 0, 0, 0, 0, 0, 0, [], ())
def Ae (m : bt) (level : Int) (text : ByteArray) : bt := (m.1, m.2.1, m.2.2.1, m.2.2.2.1, m.2.2.2.2.1 ++ [(level, ())], m.2.2.2.2.2.1 ++ [(text, ())], m.2.2.2.2.2.2)
noncomputable def I5 (m : bt) (level : Int) (text : ByteArray) : Bool := wD m && ((decide (1 ≤ level) && decide (level ≤ 2)) && (decide (ByteArray.size text ≤ 60) && decide (m.2.2.2.2.2.1.length < 20)))
noncomputable def iV (m : bt) (level : Int) (text : ByteArray) : bt × Bool := bif I5 m level text then (Ae m level text, true) else (SN, false)
theorem I6 (m : bt) (level : Int) (text : ByteArray) (h : Ch m ≤ 1048576) : zQ m.1 m.2.1 m.2.2.1 m.2.2.2.1 m.2.2.2.2.1 m.2.2.2.2.2.1 m.2.2.2.2.2.2.1 m.2.2.2.2.2.2.2.1 m.2.2.2.2.2.2.2.2.1 m.2.2.2.2.2.2.2.2.2.1 m.2.2.2.2.2.2.2.2.2.2.1 m.2.2.2.2.2.2.2.2.2.2.2.1 m.2.2.2.2.2.2.2.2.2.2.2.2.1 m.2.2.2.2.2.2.2.2.2.2.2.2.2.1 m.2.2.2.2.2.2.2.2.2.2.2.2.2.2.1 m.2.2.2.2.2.2.2.2.2.2.2.2.2.2.2.1 level text = some ((iV m level text).1.1, (iV m level text).1.2.1, (iV m level text).1.2.2.1, (iV m level text).1.2.2.2.1, (iV m level text).1.2.2.2.2.1, (iV m level text).1.2.2.2.2.2.1, (iV m level text).1.2.2.2.2.2.2.1, (iV m level text).1.2.2.2.2.2.2.2.1, (iV m level text).1.2.2.2.2.2.2.2.2.1, (iV m level text).1.2.2.2.2.2.2.2.2.2.1, (iV m level text).1.2.2.2.2.2.2.2.2.2.2.1, (iV m level text).1.2.2.2.2.2.2.2.2.2.2.2.1, (iV m level text).1.2.2.2.2.2.2.2.2.2.2.2.2.1, (iV m level text).1.2.2.2.2.2.2.2.2.2.2.2.2.2.1, (iV m level text).1.2.2.2.2.2.2.2.2.2.2.2.2.2.2.1, (iV m level text).1.2.2.2.2.2.2.2.2.2.2.2.2.2.2.2.1, (iV m level text).2, ()) ∧ zT m.1 m.2.1 m.2.2.1 m.2.2.2.1 m.2.2.2.2.1 m.2.2.2.2.2.1 m.2.2.2.2.2.2.1 m.2.2.2.2.2.2.2.1 m.2.2.2.2.2.2.2.2.1 m.2.2.2.2.2.2.2.2.2.1 m.2.2.2.2.2.2.2.2.2.2.1 m.2.2.2.2.2.2.2.2.2.2.2.1 m.2.2.2.2.2.2.2.2.2.2.2.2.1 m.2.2.2.2.2.2.2.2.2.2.2.2.2.1 m.2.2.2.2.2.2.2.2.2.2.2.2.2.2.1 m.2.2.2.2.2.2.2.2.2.2.2.2.2.2.2.1 level text = some ((iV m level text).1.1, (iV m level text).1.2.1, (iV m level text).1.2.2.1, (iV m level text).1.2.2.2.1, (iV m level text).1.2.2.2.2.1, (iV m level text).1.2.2.2.2.2.1, (iV m level text).1.2.2.2.2.2.2.1, (iV m level text).1.2.2.2.2.2.2.2.1, (iV m level text).1.2.2.2.2.2.2.2.2.1, (iV m level text).1.2.2.2.2.2.2.2.2.2.1, (iV m level text).1.2.2.2.2.2.2.2.2.2.2.1, (iV m level text).1.2.2.2.2.2.2.2.2.2.2.2.1, (iV m level text).1.2.2.2.2.2.2.2.2.2.2.2.2.1, (iV m level text).1.2.2.2.2.2.2.2.2.2.2.2.2.2.1, (iV m level text).1.2.2.2.2.2.2.2.2.2.2.2.2.2.2.1, (iV m level text).1.2.2.2.2.2.2.2.2.2.2.2.2.2.2.2.1, (iV m level text).2, ()) := by
 obtain ⟨k1, k2, k3⟩ := uQ m h; obtain ⟨p1, p2⟩ := mm m.1 m.2.1 m.2.2.1 m.2.2.2.1 m.2.2.2.2.1 m.2.2.2.2.2.1 m.2.2.2.2.2.2.1 m.2.2.2.2.2.2.2.1 m.2.2.2.2.2.2.2.2.1 m.2.2.2.2.2.2.2.2.2.1 m.2.2.2.2.2.2.2.2.2.2.1 m.2.2.2.2.2.2.2.2.2.2.2.1 m.2.2.2.2.2.2.2.2.2.2.2.2.1 m.2.2.2.2.2.2.2.2.2.2.2.2.2.1 m.2.2.2.2.2.2.2.2.2.2.2.2.2.2.1 m.2.2.2.2.2.2.2.2.2.2.2.2.2.2.2.1 h; unfold zQ zT iV I5; simp only [k1, k2, p1, p2, oQ, wB, Option.bind_some]
 cases hb : wD m
 · cases (decide (1 ≤ level) && decide (level ≤ 2))
   · exact ⟨rfl, rfl⟩
   cases decide ((60 : Int) < ((ByteArray.size text : Nat) : Int))
   · cases decide ((20 : Int) ≤ ((List.length m.2.2.2.2.2.1 : Nat) : Int))
     · exact ⟨rfl, rfl⟩
     · exact ⟨rfl, rfl⟩
   · exact ⟨rfl, rfl⟩
 have hs := (k3.1 hb).small; unfold Ch at hs
 cases (decide (1 ≤ level) && decide (level ≤ 2))
 · exact ⟨rfl, rfl⟩
 by_cases w1 : ByteArray.size text ≤ 60
 case neg => rw [ai w1, af (show (60 : Int) < ((ByteArray.size text : Nat) : Int) by omega)]; exact ⟨rfl, rfl⟩
 by_cases w2 : m.2.2.2.2.2.1.length < 20
 case neg => rw [af w1, ai w2, ai (show ¬ (60 : Int) < ((ByteArray.size text : Nat) : Int) by omega), af (show (20 : Int) ≤ ((List.length m.2.2.2.2.2.1 : Nat) : Int) by omega)]; exact ⟨rfl, rfl⟩
 rw [af w1, af w2, ai (show ¬ (60 : Int) < ((ByteArray.size text : Nat) : Int) by omega), ai (show ¬ (20 : Int) ≤ ((List.length m.2.2.2.2.2.1 : Nat) : Int) by omega)]; simp only [Bool.not_true, cond_false, aF (show (m.2.2.2.2.1.length + 1) * 8 ≤ lim by unfold lim; omega), aF (show (m.2.2.2.2.2.1.length + 1) * 16 ≤ lim by unfold lim; omega), cond_true, Bool.and_true]; exact ⟨rfl, rfl⟩
theorem EX (c : Int) (xs : bV) (h : xs.length ≤ 1048576) : cU c xs = some (c, xs, ()) := by
 unfold cU; rw [n5 _ h]; rfl
end Go.TM
set_option linter.unusedSimpArgs false
set_option linter.unusedVariables false
namespace Go.TM
open Go
theorem L2 {m : bt} (hm : pH m) {level : Int} {text : ByteArray} (hl : 1 ≤ level ∧ level ≤ 2) (ht : ByteArray.size text ≤ 60) (hn : m.2.2.2.2.2.1.length < 20) : pH (Ae m level text) := {
 ring := hm.ring
 mem := hm.mem
 items := hm.items
 texts := ⟨by show (m.2.2.2.2.2.1 ++ [(text, ())]).length ≤ 20; simp; omega, by show (m.2.2.2.2.1 ++ [(level, ())]).length = (m.2.2.2.2.2.1 ++ [(text, ())]).length; have := hm.texts.2; simp; omega⟩
 Og := fun j hj _ => by
   have hj : j < (m.2.2.2.2.1 ++ [(level, ())]).length := hj; show (decide (1 ≤ (m.2.2.2.2.1 ++ [(level, ())])[j].1) && decide ((m.2.2.2.2.1 ++ [(level, ())])[j].1 ≤ 2)) = true
   by_cases h : j < m.2.2.2.2.1.length
   · rw [List.getElem_append_left h]; exact hm.Og j h h
   · have : j = m.2.2.2.2.1.length := by simp at hj; omega
     subst this; simp [hl.1, hl.2]
 short := fun j hj _ => by
   have hj : j < (m.2.2.2.2.2.1 ++ [(text, ())]).length := hj; show ByteArray.size (m.2.2.2.2.2.1 ++ [(text, ())])[j].1 ≤ 60
   by_cases h : j < m.2.2.2.2.2.1.length
   · rw [List.getElem_append_left h]; exact hm.short j h h
   · have : j = m.2.2.2.2.2.1.length := by simp at hj; omega
     subst this; simpa using ht
 round := hm.round
 seen := hm.seen
 line := hm.line
 heard := hm.heard
 last := hm.last }
theorem Af {c2 d : Int} {lv : bV} {tx : List (ByteArray × Unit)} {m k : Nat} (hk : k < (cK c2 d lv tx m).length) : (cK c2 d lv tx m)[k] = qj c2 d lv tx k := by
 simp [cK]
theorem ql {c2 d : Int} {lv : bV} {tx : List (ByteArray × Unit)} {m : Nat} {f : cu} (hf : f ∈ cK c2 d lv tx m) : ∃ k, k < m ∧ f = qj c2 d lv tx k := by
 obtain ⟨k, hk, rfl⟩ := List.mem_iff_getElem.1 hf; rw [eU] at hk; exact ⟨k, hk, Af _⟩
def eP (m : bt) (v : Int) : bt := (m.1, m.2.1, m.2.2.1, m.2.2.2.1, m.2.2.2.2.1, m.2.2.2.2.2.1, m.2.2.2.2.2.2.1, m.2.2.2.2.2.2.2.1, m.2.2.2.2.2.2.2.2.1, v, m.2.2.2.2.2.2.2.2.2.2)
theorem L3 {m : bt} (hm : pH m) : ∃ (k : Nat) (n : bt), n = eP m (m.2.2.2.2.2.2.2.2.2.1 + ((k : Nat) : Int)) ∧ s7 m.1 m.2.1 m.2.2.1 m.2.2.2.1 m.2.2.2.2.1 m.2.2.2.2.2.1 m.2.2.2.2.2.2.1 m.2.2.2.2.2.2.2.1 m.2.2.2.2.2.2.2.2.1 m.2.2.2.2.2.2.2.2.2.1 m.2.2.2.2.2.2.2.2.2.2.1 m.2.2.2.2.2.2.2.2.2.2.2.1 m.2.2.2.2.2.2.2.2.2.2.2.2.1 m.2.2.2.2.2.2.2.2.2.2.2.2.2.1 m.2.2.2.2.2.2.2.2.2.2.2.2.2.2.1 m.2.2.2.2.2.2.2.2.2.2.2.2.2.2.2.1 = some (n.1, n.2.1, n.2.2.1, n.2.2.2.1, n.2.2.2.2.1, n.2.2.2.2.2.1, n.2.2.2.2.2.2.1, n.2.2.2.2.2.2.2.1, n.2.2.2.2.2.2.2.2.1, n.2.2.2.2.2.2.2.2.2.1, n.2.2.2.2.2.2.2.2.2.2.1, n.2.2.2.2.2.2.2.2.2.2.2.1, n.2.2.2.2.2.2.2.2.2.2.2.2.1, n.2.2.2.2.2.2.2.2.2.2.2.2.2.1, n.2.2.2.2.2.2.2.2.2.2.2.2.2.2.1, n.2.2.2.2.2.2.2.2.2.2.2.2.2.2.2.1, ez m.2.2.2.1 m.2.2.2.2.2.2.2.2.2.1 k, ()) ∧ sZ m.1 m.2.1 m.2.2.1 m.2.2.2.1 m.2.2.2.2.1 m.2.2.2.2.2.1 m.2.2.2.2.2.2.1 m.2.2.2.2.2.2.2.1 m.2.2.2.2.2.2.2.2.1 m.2.2.2.2.2.2.2.2.2.1 m.2.2.2.2.2.2.2.2.2.2.1 m.2.2.2.2.2.2.2.2.2.2.2.1 m.2.2.2.2.2.2.2.2.2.2.2.2.1 m.2.2.2.2.2.2.2.2.2.2.2.2.2.1 m.2.2.2.2.2.2.2.2.2.2.2.2.2.2.1 m.2.2.2.2.2.2.2.2.2.2.2.2.2.2.2.1 = some (n.1, n.2.1, n.2.2.1, n.2.2.2.1, n.2.2.2.2.1, n.2.2.2.2.2.1, n.2.2.2.2.2.2.1, n.2.2.2.2.2.2.2.1, n.2.2.2.2.2.2.2.2.1, n.2.2.2.2.2.2.2.2.2.1, n.2.2.2.2.2.2.2.2.2.2.1, n.2.2.2.2.2.2.2.2.2.2.2.1, n.2.2.2.2.2.2.2.2.2.2.2.2.1, n.2.2.2.2.2.2.2.2.2.2.2.2.2.1, n.2.2.2.2.2.2.2.2.2.2.2.2.2.2.1, n.2.2.2.2.2.2.2.2.2.2.2.2.2.2.2.1, ez m.2.2.2.1 m.2.2.2.2.2.2.2.2.2.1 k, ()) ∧ pH n ∧
   m.2.2.2.2.2.2.2.2.2.1 + ((k : Nat) : Int) ≤ ((bE m.2.2.2.1 : Nat) : Int) ∧ (∀ j, j < k → ¬ wE m.2.2.2.1 m.2.2.2.2.2.2.2.2.1 (m.2.2.2.2.2.2.2.2.2.1 + ((j + 1 : Nat) : Int))) ∧ (m.2.2.2.2.2.2.2.2.2.1 + ((k : Nat) : Int) < ((bE m.2.2.2.1 : Nat) : Int) → wE m.2.2.2.1 m.2.2.2.2.2.2.2.2.1 (m.2.2.2.2.2.2.2.2.2.1 + ((k + 1 : Nat) : Int))) := by
 have hw := hm.small; have hb := (uQ m (Nat.le_trans hw (by decide))).2.2.2 hm; obtain ⟨k, v, h1, h2, h3, _, h5⟩ := QC m (Nat.le_trans hw (by decide)); subst h3; obtain ⟨g1, g2, g3⟩ := h5 hb; have hh := hm.heard; exact ⟨k, _, rfl, h2, h1, { ring := hm.ring, mem := hm.mem, items := hm.items, texts := hm.texts, Og := hm.Og, short := hm.short, round := hm.round, seen := hm.seen, line := hm.line, heard := ⟨by show 0 ≤ m.2.2.2.2.2.2.2.2.2.1 + ((k : Nat) : Int); omega, g1⟩, last := hm.last }, g1, g2, g3⟩
end Go.TM
set_option linter.unusedSimpArgs false
set_option linter.unusedVariables false
namespace Go.TM
open Go
def fF (code : List (Int × Unit)) (at_ : Int) : Prop := 0 ≤ at_ ∧ at_ ≤ ((code.length : Nat) : Int) ∧ code.length ≤ 1048576
theorem Cs (y : Int) : 0 ≤ IntKind.i64.wrap ((BitVec.ofInt IntKind.i64.bits y &&& BitVec.ofInt IntKind.i64.bits (255 : Int)).toNat : Int) ∧ IntKind.i64.wrap ((BitVec.ofInt IntKind.i64.bits y &&& BitVec.ofInt IntKind.i64.bits (255 : Int)).toNat : Int) ≤ 255 := by
 have h : (BitVec.ofInt IntKind.i64.bits y &&& BitVec.ofInt IntKind.i64.bits (255 : Int)).toNat ≤ 255 := by
   rw [BitVec.toNat_and]; exact Nat.le_trans Nat.and_le_right (by decide)
 rw [fP (by omega) (by omega)]; omega
def Uf (code : List (Int × Unit)) (o : Option (Int × (List (Int × Unit)) × Int × Int × Unit)) (lo hi : Int) : Prop :=
 ∃ v I7 s', o = some (v, code, I7, s', ()) ∧ lo ≤ v ∧ v < hi ∧ fF code I7
theorem Ag (code : List (Int × Unit)) (at_ rL : Int) (h : fF code at_) : Uf code (iv code at_ rL) 0 256 := by
 obtain ⟨h0, h1, h2⟩ := h; unfold iv
 by_cases bN : at_ < ((List.length code : Nat) : Int)
 · obtain ⟨k, rfl⟩ := Int.eq_ofNat_of_zero_le h0; have hk : k < code.length := by omega
   rw [af bN]; simp only [cond_true, ak, au, List.getElem?_eq_getElem hk, Option.bind_some, aC (show k < 4611686018427387904 by omega)]; exact ⟨_, _, _, rfl, (Cs _).1, by have := (Cs (IntKind.i64.wrap ((IntKind.i64.wrap ((BitVec.ofInt IntKind.i64.bits (IntKind.i64.wrap ((BitVec.ofInt IntKind.i64.bits (Int.fdiv (IntKind.i64.wrap ((IntKind.i64.wrap (rL * (6364136223846793005 : Int))) + (1442695040888963407 : Int))) (2 ^ (min 33 IntKind.i64.bits))) ^^^ BitVec.ofInt IntKind.i64.bits (Int.fdiv (IntKind.i64.wrap ((IntKind.i64.wrap (rL * (6364136223846793005 : Int))) + (1442695040888963407 : Int))) (2 ^ (min 45 IntKind.i64.bits)))).toNat : Int)) &&& BitVec.ofInt IntKind.i64.bits (255 : Int)).toNat : Int)) + (IntKind.i64.wrap code[k].1)))).2; exact Int.lt_add_one_of_le this, by omega, by omega, h2⟩
 · rw [ai bN]; exact ⟨_, _, _, rfl, (Cs _).1, Int.lt_add_one_of_le (Cs _).2, h0, h1, h2⟩
theorem yM {v n : Int} (hv : 0 ≤ v) (hn : 0 < n) : 0 ≤ Int.tmod v n ∧ Int.tmod v n < n := by
 obtain ⟨a, rfl⟩ := Int.eq_ofNat_of_zero_le hv; obtain ⟨b, rfl⟩ := Int.eq_ofNat_of_zero_le (Int.le_of_lt hn); have : Int.tmod ((a : Nat) : Int) ((b : Nat) : Int) = ((a % b : Nat) : Int) := rfl; rw [this]; have := Nat.mod_lt a (show 0 < b by omega); omega
theorem rE (code : List (Int × Unit)) (at_ rL n : Int) (h : fF code at_) (hn : 0 < n) : Uf code (dx code at_ rL n) 0 n := by
 unfold dx; rw [ai (show ¬ n ≤ 0 by omega), ai (show ¬ n = 0 by omega)]
 by_cases adp : n ≤ 256
 · obtain ⟨v, a1, s1, e1, v1, v2, d1⟩ := Ag code at_ rL h; rw [af adp]; simp only [cond_false, cond_true, e1, Option.bind_some]; exact ⟨_, _, _, rfl, (yM v1 hn).1, (yM v1 hn).2, d1⟩
 · obtain ⟨v, a1, s1, e1, v1, v2, d1⟩ := Ag code at_ rL h; obtain ⟨w, a2, s2, e2, w1, w2, d2⟩ := Ag code a1 s1 d1; obtain ⟨x, a3, s3, e3, x1, x2, d3⟩ := Ag code a2 s2 d2; obtain ⟨y, a4, s4, e4, y1, y2, d4⟩ := Ag code a3 s3 d3; rw [ai adp]; simp only [cond_false, e1, e2, e3, e4, Option.bind_some]; have hw : IntKind.i64.wrap ((IntKind.i64.wrap ((IntKind.i64.wrap ((IntKind.i64.wrap (v * (16777216 : Int))) + (IntKind.i64.wrap (w * (65536 : Int))))) + (IntKind.i64.wrap (x * (256 : Int))))) + y) = v * 16777216 + w * 65536 + x * 256 + y := by
     rw [fP (show -9223372036854775808 ≤ v * (16777216 : Int) by omega) (by omega), fP (show -9223372036854775808 ≤ w * (65536 : Int) by omega) (by omega), fP (show -9223372036854775808 ≤ x * (256 : Int) by omega) (by omega),
       fP (show -9223372036854775808 ≤ v * (16777216 : Int) + w * 65536 by omega) (by omega), fP (show -9223372036854775808 ≤ v * (16777216 : Int) + w * 65536 + x * 256 by omega) (by omega), fP (by omega) (by omega)]
   rw [hw]; have hr := yM (v := v * 16777216 + w * 65536 + x * 256 + y) (by omega) hn; exact ⟨_, _, _, rfl, hr.1, hr.2, d4⟩
theorem L4 (code : List (Int × Unit)) (at_ rL n : Int) (h : fF code at_) (hn : 0 < n) : ∃ b I7 s', mP code at_ rL n = some (b, code, I7, s', ()) ∧ fF code I7 := by
 obtain ⟨v, a1, s1, e1, v1, v2, d1⟩ := rE code at_ rL n h hn; unfold mP; simp only [e1, Option.bind_some]; exact ⟨_, _, _, rfl, d1⟩
def Yw {B : Type} (code : List (Int × Unit)) : Sum ((List (Int × Unit)) × Int × Unit) B → Prop
 | .inl y => y.1 = code
 | .inr _ => False
theorem Yx (code : List (Int × Unit)) (h : code.length ≤ 1048576) : ∃ s', oJ code = some (code, (0 : Int), s', ()) := by
 unfold oJ; obtain ⟨e, he, hq⟩ := dV (round := kD) (x := (code, IntKind.i64.wrap ((27101 : Int) + ((List.length code : Nat) : Int)), ((0 : Nat) : Int), ())) code.length (fun k x => ∃ s, x = (code, s, ((k : Nat) : Int), ())) (Yw code) (by
   rintro x ⟨s, rfl⟩
   exact ⟨.inl (code, s, ()), by simp only [kD, qR, az, cond_false], rfl⟩) (by
   rintro k x hk ⟨s, rfl⟩
   simp only [kD, qR, aw hk, ak, cond_true, au, List.getElem?_eq_getElem hk, Option.bind_some, aC (show k < 4611686018427387904 by omega)]
   cases decide (((k : Nat) : Int) < (4000 : Int))
   · exact .inl ⟨.inl (code, s, ()), rfl, rfl⟩
   · exact .inr ⟨_, rfl, _, rfl⟩) ⟨_, rfl⟩
 rw [show ((0 : Nat) : Int) = (0 : Int) from rfl] at he; rw [he]
 cases e with
 | inr e => exact hq.elim
 | inl e =>
   have hq : e.1 = code := hq; exact ⟨e.2.1, by rw [← hq]; rfl⟩
theorem SO (code : List (Int × Unit)) (at_ rL : Int) (l : List (Int × Unit)) (h : fF code at_) (h0 : 0 < l.length) : ∃ v I7 s', lL code at_ rL l = some (v, code, I7, s', ()) ∧ (v, ()) ∈ l ∧ fF code I7 := by
 obtain ⟨v, a1, s1, e1, v1, v2, d1⟩ := rE code at_ rL ((l.length : Nat) : Int) h (by omega); obtain ⟨k, rfl⟩ := Int.eq_ofNat_of_zero_le v1; have hk : k < l.length := by omega
 unfold lL; simp only [e1, Option.bind_some, ak, cond_true, au, List.getElem?_eq_getElem hk]; exact ⟨_, _, _, rfl, List.getElem_mem hk, d1⟩
end Go.TM
set_option linter.unusedSimpArgs false
set_option linter.unusedVariables false
namespace Go.TM
open Go
end Go.TM
set_option linter.unusedSimpArgs false
set_option linter.unusedVariables false
namespace Go.TM
open Go
theorem QI (code : List (Int × Unit)) (at_ rL : Int) (l : List (ByteArray × Unit)) (h : fF code at_) (h0 : 0 < l.length) : ∃ v I7 s', pY code at_ rL l = some (v, code, I7, s', ()) ∧ (v, ()) ∈ l ∧ fF code I7 := by
 obtain ⟨v, a1, s1, e1, v1, v2, d1⟩ := rE code at_ rL ((l.length : Nat) : Int) h (by omega); obtain ⟨k, rfl⟩ := Int.eq_ofNat_of_zero_le v1; have hk : k < l.length := by omega
 unfold pY; simp only [e1, Option.bind_some, ak, cond_true, au, List.getElem?_eq_getElem hk]; exact ⟨_, _, _, rfl, List.getElem_mem hk, d1⟩
end Go.TM
set_option linter.unusedSimpArgs false
set_option linter.unusedVariables false
namespace Go.TM
open Go
def pJ (xs : List (Int × Unit)) (m : Nat) : Prop := xs.length ≤ m ∧ (∀ j (hj : j < xs.length), 1 ≤ xs[j].1 ∧ xs[j].1 ≤ ((m : Nat) : Int)) ∧ ∀ i j (hi : i < xs.length) (hj : j < xs.length), i < j → xs[i].1 < xs[j].1
theorem pJ.snoc {xs : List (Int × Unit)} {m : Nat} (h : pJ xs m) : pJ (xs ++ [(((m + 1 : Nat) : Int), ())]) (m + 1) := by
 obtain ⟨h1, h2, h3⟩ := h; refine ⟨by simp; omega, fun j hj => ?_, fun i j hi hj Q7 => ?_⟩
 · by_cases hx : j < xs.length
   · rw [List.getElem_append_left hx]; have := h2 j hx; omega
   · have : j = xs.length := by simp at hj; omega
     subst this; simp; omega
 · by_cases hx : j < xs.length
   · rw [List.getElem_append_left hx, List.getElem_append_left (by omega)]; exact h3 i j (by omega) hx Q7
   · have hj' : j = xs.length := by simp at hj; omega
     subst hj'; have Hv : i < xs.length := Q7; rw [List.getElem_append_left Hv]; have := h2 i Hv; simp; omega
theorem pJ.up {xs : List (Int × Unit)} {m : Nat} (h : pJ xs m) : pJ xs (m + 1) :=
 ⟨by have := h.1; omega, fun j hj => by have := h.2.1 j hj; omega, h.2.2⟩
structure I8 (c : Int) (xs : List (Int × Unit)) : Prop where
 zP : 1 ≤ c
 id2 : c ≤ 9
 some_ : 1 ≤ xs.length
 rising : pJ xs 5
theorem I8.len {c : Int} {xs : List (Int × Unit)} (h : I8 c xs) : xs.length ≤ 5 := h.rising.1
def QJ {B : Type} (code : List (Int × Unit)) (c : Int) : Sum ((List (Int × Unit)) × Int × Int × Int × (List (Int × Unit)) × Int × (List (Int × Unit)) × Unit) B → Prop
 | .inl y => y.1 = code ∧ fF code y.2.1 ∧ y.2.2.2.2.2.1 = c ∧ pJ y.2.2.2.2.2.2.1 4
 | .inr _ => False
theorem K1 (code : List (Int × Unit)) (at_ rL : Int) (h : fF code at_) : ∃ c xs I7 s', pW code at_ rL = some (c, xs, code, I7, s', ()) ∧ I8 c xs ∧ c ≤ 3 ∧ pJ xs 4 ∧ fF code I7 := by
 obtain ⟨v, a1, s1, e1, v1, v2, d1⟩ := rE code at_ rL 3 h (by omega); unfold pW; rw [e1]; simp only [Option.bind_some]; have hw : IntKind.i64.wrap ((1 : Int) + v) = 1 + v := fP (by omega) (by omega); rw [hw]; obtain ⟨e, he, hq⟩ := dV (round := gW) (x := (code, a1, s1, (0 : Int), [], 1 + v, [], ((1 : Nat) : Int), ())) 4 (fun k x => ∃ (a s : Int) (m : List (Int × Unit)), x = (code, a, s, (0 : Int), [], 1 + v, m, ((k + 1 : Nat) : Int), ()) ∧ fF code a ∧ pJ m k)
   (QJ code (1 + v)) (by
   rintro x ⟨a, s, m, rfl, da, rm⟩
   exact ⟨.inl (code, a, s, 0, [], 1 + v, m, ()), by simp only [gW, oZ, ai (show ¬ ((4 + 1 : Nat) : Int) ≤ 4 by omega), cond_false], rfl, da, rfl, rm⟩) (by
   rintro k x hk ⟨a, s, m, rfl, da, rm⟩
   obtain ⟨b, a2, s2, e2, d2⟩ := L4 code a s 3 da (by omega); have Ry := rm.1; have hs : IntKind.i64.wrap (((k + 1 : Nat) : Int) + (1 : Int)) = ((k + 1 + 1 : Nat) : Int) := by rw [fP] <;> omega
   simp only [gW, oZ, af (show ((k + 1 : Nat) : Int) ≤ 4 by omega), cond_true, e2, Option.bind_some, aF (show (List.length m + 1) * 8 ≤ lim by unfold lim; omega), hs]
   cases b
   · exact .inr ⟨_, rfl, a2, s2, m ++ [(((k + 1 : Nat) : Int), ())], rfl, d2, rm.snoc⟩
   · exact .inr ⟨_, rfl, a2, s2, m, rfl, d2, rm.up⟩) ⟨a1, s1, [], rfl, d1, by simp, fun j hj => by simp at hj, fun i j hi => by simp at hi⟩
 have he : aA gW (code, a1, s1, (0 : Int), [], 1 + v, [], (1 : Int), ()) = some e := he; rw [he]
 cases e with
 | inr e => exact hq.elim
 | inl e =>
   obtain ⟨y1, y2, y3, y4, y5, y6, y7, _⟩ := e; obtain ⟨q1, q2, q3, q4⟩ := hq; simp only at q1 q2 q3 q4; subst q1 q3; simp only [gG]; have q5 : pJ y7 5 := q4.up
   by_cases h0 : ((List.length y7 : Nat) : Int) = 0
   · rw [af h0]; have r4 : pJ [((2 : Int), ())] 4 := ⟨by simp, fun j hj => by
       have : j = 0 := by simp at hj; omega
       subst this; simp, fun i j hi hj Q7 => by simp at hi hj; omega⟩
     exact ⟨_, _, _, _, rfl, ⟨by omega, by omega, by simp, r4.up⟩, by omega, r4, q2⟩
   · rw [ai h0]; exact ⟨_, _, _, _, rfl, ⟨by omega, by omega, by omega, q5⟩, by omega, q4, q2⟩
end Go.TM
set_option linter.unusedSimpArgs false
set_option linter.unusedVariables false
namespace Go.TM
open Go
abbrev ajv : Type := Int × Int × (List (Int × Unit)) × aG × (List (Int × Unit)) × (List (ByteArray × Unit)) × Int × Int × Int × Int × Int × Int × Int × Int × Int × (List (Int × Unit)) × Unit
def dM (c : Int) (xs : List (Int × Unit)) (id : Int) : ajv := (id, c, xs, [], [], [], 0, 0, 0, 0, 0, 0, 0, 0, 0, [], ())
theorem G8 (c : Int) (xs : List (Int × Unit)) (id : Int) (h : xs.length ≤ 1048576) (hr : cE c xs = some (true, ())) (hm : (id, ()) ∈ xs) : fQ id c xs = some (id, c, xs, [], [], [], 0, 0, 0, 0, 0, 0, 0, 0, 0, [], true, ()) := by
 unfold fQ; simp only [hr, Cp _ _ h, af hm, Option.bind_some, Bool.not_true, cond_false, aF (show (0 + xs.length) * 8 ≤ lim by unfold lim; omega), cond_true, List.nil_append]
theorem G9 (c : Int) (xs : List (Int × Unit)) (id : Int) (h : xs.length ≤ 1048576) (hr : ev c xs = some (true, ())) (hm : (id, ()) ∈ xs) : qd id c xs = some (id, c, xs, [], [], [], 0, 0, 0, 0, 0, 0, 0, 0, 0, [], true, ()) := by
 unfold qd cU; simp only [hr, LX _ _ h, af hm, Option.bind_some, Bool.not_true, cond_false, n5 xs h]
theorem map_take {α β : Type} (f : α → β) (xs : List α) {k : Nat} (hk : k < xs.length) : (xs.take (k + 1)).map f = (xs.take k).map f ++ [f xs[k]] := by
 rw [List.take_succ_eq_append_getElem hk, List.map_append]; rfl
end Go.TM
set_option linter.unusedSimpArgs false
set_option linter.unusedVariables false
namespace Go.TM
open Go
abbrev la : Type := Int × Bool × Int × Int × Int × Int × Int × bV × Int × Int × Int × ByteArray × Unit
abbrev NP : Type := List (aG × Unit)
abbrev aX : Type := Int × bV × List bt × List la × NP × aG × Unit
def nt (w : aX) (k : Nat) (m : bt) : aX := (w.1, w.2.1, w.2.2.1.set k m, w.2.2.2)
def fG (w : aX) (l : List la) : aX := (w.1, w.2.1, w.2.2.1, l, w.2.2.2.2)
def Yy (w : aX) (l : NP) : aX := (w.1, w.2.1, w.2.2.1, w.2.2.2.1, l, w.2.2.2.2.2)
def Yz (w : aX) (l : aG) : aX := (w.1, w.2.1, w.2.2.1, w.2.2.2.1, w.2.2.2.2.1, l, ())
theorem K2 (w : aX) (h : w.2.2.1.length ≤ 1048576) (id : Int) : ∃ a, nR w.1 w.2.1 w.2.2.1 w.2.2.2.1 w.2.2.2.2.1 w.2.2.2.2.2.1 id = some (a, w.1, w.2.1, w.2.2.1, w.2.2.2.1, w.2.2.2.2.1, w.2.2.2.2.2.1, ()) ∧ ((a = -1 ∧ ∀ k (hk : k < w.2.2.1.length), (w.2.2.1[k]).1 ≠ id) ∨ ∃ k, ∃ hk : k < w.2.2.1.length, a = ((k : Nat) : Int) ∧ (w.2.2.1[k]).1 = id) := by
 obtain ⟨e, he, hq⟩ := dV (round := jQ) (x := (w.1, w.2.1, w.2.2.1, w.2.2.2.1, w.2.2.2.2.1, w.2.2.2.2.2.1, id, ((0 : Nat) : Int), ())) w.2.2.1.length (fun k x => x = (w.1, w.2.1, w.2.2.1, w.2.2.2.1, w.2.2.2.2.1, w.2.2.2.2.2.1, id, ((k : Nat) : Int), ()) ∧ ∀ j (hj : j < w.2.2.1.length), j < k → (w.2.2.1[j]).1 ≠ id)
   (fun e => (e = .inl (w.1, w.2.1, w.2.2.1, w.2.2.2.1, w.2.2.2.2.1, w.2.2.2.2.2.1, ()) ∧ ∀ k (hk : k < w.2.2.1.length), (w.2.2.1[k]).1 ≠ id) ∨ ∃ k, ∃ hk : k < w.2.2.1.length, e = .inr (w.1, w.2.1, w.2.2.1, w.2.2.2.1, w.2.2.2.2.1, w.2.2.2.2.2.1, ((k : Nat) : Int), ()) ∧ (w.2.2.1[k]).1 = id) (by
     rintro x ⟨rfl, g⟩
     exact ⟨_, by simp only [jQ, sx, az, cond_false], .inl ⟨rfl, fun k hk => g k hk hk⟩⟩) (by
     rintro k x hk ⟨rfl, g⟩
     simp only [jQ, sx, aw hk, ak, cond_true, au, List.getElem?_eq_getElem hk, Option.bind_some, aC (show k < 4611686018427387904 by omega)]
     by_cases e : (w.2.2.1[k]).1 = id
     · rw [af e]; exact .inl ⟨_, rfl, .inr ⟨k, hk, rfl, e⟩⟩
     · rw [ai e]; refine .inr ⟨_, rfl, rfl, fun j hj Ik => ?_⟩
       by_cases e2 : j < k
       · exact g j hj e2
       · have : j = k := by omega
         subst this; exact e) ⟨rfl, fun j hj h => by omega⟩
 have he : aA jQ (w.1, w.2.1, w.2.2.1, w.2.2.2.1, w.2.2.2.2.1, w.2.2.2.2.2.1, id, (0 : Int), ()) = some e := he; unfold nR; rw [he]; rcases hq with ⟨rfl, g⟩ | ⟨k, hk, rfl, g⟩
 · exact ⟨_, rfl, .inl ⟨rfl, g⟩⟩
 · exact ⟨_, rfl, .inr ⟨k, hk, rfl, g⟩⟩
theorem oS (w : aX) (h : w.2.2.1.length ≤ 1048576) {k : Nat} (hk : k < w.2.2.1.length) (m : bt) : jA w.1 w.2.1 w.2.2.1 w.2.2.2.1 w.2.2.2.2.1 w.2.2.2.2.2.1 ((k : Nat) : Int) m.1 m.2.1 m.2.2.1 m.2.2.2.1 m.2.2.2.2.1 m.2.2.2.2.2.1 m.2.2.2.2.2.2.1 m.2.2.2.2.2.2.2.1 m.2.2.2.2.2.2.2.2.1 m.2.2.2.2.2.2.2.2.2.1 m.2.2.2.2.2.2.2.2.2.2.1 m.2.2.2.2.2.2.2.2.2.2.2.1 m.2.2.2.2.2.2.2.2.2.2.2.2.1 m.2.2.2.2.2.2.2.2.2.2.2.2.2.1 m.2.2.2.2.2.2.2.2.2.2.2.2.2.2.1 m.2.2.2.2.2.2.2.2.2.2.2.2.2.2.2.1 = some ((nt w k m).1, (nt w k m).2.1, (nt w k m).2.2.1, (nt w k m).2.2.2.1, (nt w k m).2.2.2.2.1, (nt w k m).2.2.2.2.2.1, ()) := by
 unfold jA; simp only [aF (show (0 + w.2.2.1.length) * 208 ≤ lim by unfold lim; omega), ak, au, List.nil_append, eZ hk, List.getElem?_eq_getElem hk, Option.bind_some, cond_true]; rfl
def fZ (ms : List bt) (id : Int) (x : cu) : List la := (ms.filter fun m => !decide (m.1 = id)).map fun m => (m.1, false, 0, 0, 0, 0, 0, [], x.1, x.2.1, x.2.2.1, x.2.2.2.1, ())
def cB (ms : List bt) (id : Int) (l : aG) : List la := l.flatMap (fZ ms id)
theorem Ha (ms : List bt) (id : Int) (x : cu) {k : Nat} (hk : k < ms.length) : fZ (ms.take (k + 1)) id x = fZ (ms.take k) id x ++ (bif !decide (ms[k].1 = id) then [(ms[k].1, false, 0, 0, 0, 0, 0, [], x.1, x.2.1, x.2.2.1, x.2.2.2.1, ())] else []) := by
 unfold fZ; rw [List.take_succ_eq_append_getElem hk, List.filter_append, List.map_append, List.filter_cons]
 cases decide (ms[k].1 = id) <;> rfl
theorem B3 (ms : List bt) (id : Int) (x : cu) : (fZ ms id x).length ≤ ms.length := by
 unfold fZ; rw [List.length_map]; exact List.length_filter_le _ _
theorem Eg (ms : List bt) (id : Int) (l : aG) {k : Nat} (hk : k < l.length) : cB ms id (l.take (k + 1)) = cB ms id (l.take k) ++ fZ ms id l[k] := by
 unfold cB; rw [List.take_succ_eq_append_getElem hk, List.flatMap_append]; simp
theorem mo (ms : List bt) (id : Int) (n : Nat) (hn : ms.length ≤ n) : (l : aG) → (cB ms id l).length ≤ n * l.length
 | [] => Nat.zero_le _
 | x :: l => by
   have h1 := B3 ms id x; have h2 := mo ms id n hn l; show (fZ ms id x ++ cB ms id l).length ≤ n * (l.length + 1); rw [List.length_append, Nat.mul_succ]; omega
theorem td {ms : List bt} {id : Int} {l : aG} {f : la} (h : f ∈ cB ms id l) : ∃ m ∈ ms, ∃ x ∈ l, m.1 ≠ id ∧ f = (m.1, false, 0, 0, 0, 0, 0, [], x.1, x.2.1, x.2.2.1, x.2.2.2.1, ()) := by
 unfold cB fZ at h; obtain ⟨x, hx, h⟩ := List.mem_flatMap.1 h; obtain ⟨m, hm, rfl⟩ := List.mem_map.1 h; obtain ⟨hm, hn⟩ := List.mem_filter.1 hm; refine ⟨m, hm, x, hx, fun e => ?_, rfl⟩; rw [af e] at hn
 cases hn
theorem Eh (w : aX) (id : Int) (l : aG) (h1 : w.2.2.1.length ≤ 5) (h2 : w.2.2.2.1.length ≤ 1073741824) (h3 : l.length ≤ 1048576) : mT w.1 w.2.1 w.2.2.1 w.2.2.2.1 w.2.2.2.2.1 w.2.2.2.2.2.1 id l = some ((fG w (w.2.2.2.1 ++ cB w.2.2.1 id l)).1, (fG w (w.2.2.2.1 ++ cB w.2.2.1 id l)).2.1, (fG w (w.2.2.2.1 ++ cB w.2.2.1 id l)).2.2.1, (fG w (w.2.2.2.1 ++ cB w.2.2.1 id l)).2.2.2.1, (fG w (w.2.2.2.1 ++ cB w.2.2.1 id l)).2.2.2.2.1, (fG w (w.2.2.2.1 ++ cB w.2.2.1 id l)).2.2.2.2.2.1, ()) := by
 have inner : ∀ (fl : List la) (i : Nat) (hi : i < l.length), fl.length ≤ 2147483648 → aA fB (w.1, w.2.1, w.2.2.1, w.2.2.2.1, w.2.2.2.2.1, w.2.2.2.2.2.1, id, l, fl, ((i : Nat) : Int), (0 : Int), ()) = some (.inl (w.1, w.2.1, w.2.2.1, w.2.2.2.1, w.2.2.2.2.1, w.2.2.2.2.2.1, id, l, fl ++ fZ w.2.2.1 id l[i], ((i : Nat) : Int), ())) := by
   intro fl i hi hf; have l1 := bd (round := fB) (e := .inl (w.1, w.2.1, w.2.2.1, w.2.2.2.1, w.2.2.2.2.1, w.2.2.2.2.2.1, id, l, fl ++ fZ w.2.2.1 id l[i], ((i : Nat) : Int), ())) w.2.2.1.length (fun k => (w.1, w.2.1, w.2.2.1, w.2.2.2.1, w.2.2.2.2.1, w.2.2.2.2.2.1, id, l, fl ++ fZ (w.2.2.1.take k) id l[i], ((i : Nat) : Int), ((k : Nat) : Int), ())) (by
     simp only [fB, o9, az, cond_false, List.take_length]) (fun k hk => by
     have hb : Nat.ble (((fl ++ fZ (w.2.2.1.take k) id l[i]).length + 1) * 120) lim = true := aF (by
       have := B3 (w.2.2.1.take k) id l[i]; rw [List.length_take] at this; rw [List.length_append]; unfold lim; omega)
     rw [Ha w.2.2.1 id l[i] hk]; simp only [fB, o9, aw hk, ak, cond_true, au, List.getElem?_eq_getElem hk, List.getElem?_eq_getElem hi, Option.bind_some, aC (show k < 4611686018427387904 by omega), hb]
     cases decide ((w.2.2.1[k]).1 = id)
     · simp only [Bool.not_false, cond_true, List.append_assoc]
     · simp only [Bool.not_true, cond_false, List.append_nil])
   have l1 : aA fB (w.1, w.2.1, w.2.2.1, w.2.2.2.1, w.2.2.2.2.1, w.2.2.2.2.2.1, id, l, fl ++ fZ (w.2.2.1.take 0) id l[i], ((i : Nat) : Int), (0 : Int), ()) = _ := l1
   rwa [show fZ (w.2.2.1.take 0) id l[i] = [] from rfl, List.append_nil] at l1
 have l2 := bd (round := gY) (e := .inl (w.1, w.2.1, w.2.2.1, w.2.2.2.1, w.2.2.2.2.1, w.2.2.2.2.2.1, w.2.2.2.1 ++ cB w.2.2.1 id l, ())) l.length (fun k => (w.1, w.2.1, w.2.2.1, w.2.2.2.1, w.2.2.2.2.1, w.2.2.2.2.2.1, id, l, w.2.2.2.1 ++ cB w.2.2.1 id (l.take k), ((k : Nat) : Int), ())) (by
   simp only [gY, pa, az, cond_false, List.take_length]) (fun k hk => by
   have hl := mo w.2.2.1 id 5 h1 (l.take k); rw [List.length_take] at hl; rw [Eg w.2.2.1 id l hk]; simp only [gY, pa, aw hk, cond_true, inner _ k hk (show (w.2.2.2.1 ++ cB w.2.2.1 id (l.take k)).length ≤ 2147483648 by rw [List.length_append]; omega), bz, Option.bind_some, aC (show k < 4611686018427387904 by omega), List.append_assoc])
 have l2 : aA gY (w.1, w.2.1, w.2.2.1, w.2.2.2.1, w.2.2.2.2.1, w.2.2.2.2.2.1, id, l, w.2.2.2.1 ++ cB w.2.2.1 id (l.take 0), (0 : Int), ()) = _ := l2; rw [show cB w.2.2.1 id (l.take 0) = [] from rfl, List.append_nil] at l2; unfold mT; simp only [aF (show (0 + w.2.2.2.1.length) * 120 ≤ lim by unfold lim; omega), cond_true, List.nil_append, l2, bz, Option.bind_some]; rfl
theorem xc (a b : Nat) : Int.tmod ((a : Nat) : Int) ((b : Nat) : Int) = ((a % b : Nat) : Int) := rfl
noncomputable def gO (c : Int) (xs : bV) (id : Int) : Int := match bO c xs id with | some x => x.1 | none => 0
theorem SP (c : Int) (xs : bV) (id : Int) (h : xs.length ≤ 1048576) : bO c xs id = some (gO c xs id, ()) := by
 have key : ∃ b, bO c xs id = some (b, ()) := by
   unfold bO; rw [(lR c xs h).1]
   cases D7 c xs
   · exact ⟨0, rfl⟩
   obtain ⟨e, he, _⟩ := dV (round := cz) (x := (id, c, xs, ((0 : Nat) : Int), ())) xs.length (fun k x => x = (id, c, xs, ((k : Nat) : Int), ())) (fun _ => True) (by
       rintro x rfl
       exact ⟨.inl (), by simp only [cz, ji, az, cond_false], trivial⟩) (by
       rintro k x hk rfl
       have hm : (k + 1) % xs.length < xs.length := Nat.mod_lt _ (by omega); simp only [cz, ji, aw hk, ak, cond_true, au, List.getElem?_eq_getElem hk, Option.bind_some, aC (show k < 4611686018427387904 by omega), xc, List.getElem?_eq_getElem hm, ai (show ¬ ((List.length xs : Nat) : Int) = 0 by omega), cond_false]
       cases decide (xs[k].1 = id)
       · exact .inr ⟨_, rfl, rfl⟩
       · exact .inl ⟨_, rfl, trivial⟩) rfl
   have he : aA cz (id, c, xs, (0 : Int), ()) = some e := he; simp only [Option.bind_some, Bool.not_true, cond_false, he]
   cases e
   · exact ⟨_, rfl⟩
   · exact ⟨_, rfl⟩
 obtain ⟨b, h1⟩ := key; have : gO c xs id = b := by unfold gO; rw [h1]
 rw [this]; exact h1
def ee (to_ : Int) (t : jZ) : la := (to_, true, t.1, t.2.1, t.2.2.1, t.2.2.2.1, t.2.2.2.2.1, t.2.2.2.2.2.1, 0, 0, 0, ByteArray.empty, ())
theorem Bb (w : aX) (id : Int) (t : jZ) (h1 : w.2.1.length ≤ 1048576) (h2 : w.2.2.2.1.length ≤ 2147483648) (h3 : t.2.2.2.2.2.1.length ≤ 1048576) : jR w.1 w.2.1 w.2.2.1 w.2.2.2.1 w.2.2.2.2.1 w.2.2.2.2.2.1 id t.1 t.2.1 t.2.2.1 t.2.2.2.1 t.2.2.2.2.1 t.2.2.2.2.2.1 = some ((fG w (w.2.2.2.1 ++ [ee (gO w.1 w.2.1 id) t])).1, (fG w (w.2.2.2.1 ++ [ee (gO w.1 w.2.1 id) t])).2.1, (fG w (w.2.2.2.1 ++ [ee (gO w.1 w.2.1 id) t])).2.2.1, (fG w (w.2.2.2.1 ++ [ee (gO w.1 w.2.1 id) t])).2.2.2.1, (fG w (w.2.2.2.1 ++ [ee (gO w.1 w.2.1 id) t])).2.2.2.2.1, (fG w (w.2.2.2.1 ++ [ee (gO w.1 w.2.1 id) t])).2.2.2.2.2.1, ()) := by
 unfold jR
 try simp only [bZ]
 simp only [aF (show (0 + w.2.2.2.1.length) * 120 ≤ lim by unfold lim; omega), SP w.1 w.2.1 id h1, (fY t.1 t.2.1 t.2.2.1 t.2.2.2.1 t.2.2.2.2.1 t.2.2.2.2.2.1 h3).1, Option.bind_some, cond_true, List.nil_append, aF (show (w.2.2.2.1.length + 1) * 120 ≤ lim by unfold lim; omega)]; rfl
def EY (m : bt) : aG := m.2.2.2.1.filter fun x => decide (x.2.1 = m.1)
def ew (m : bt) : jZ := (m.2.2.2.2.2.2.2.2.2.2.1, m.2.2.2.2.2.2.2.2.2.2.2.1, m.2.2.2.2.2.2.2.2.2.2.2.2.1, m.2.2.2.2.2.2.2.2.2.2.2.2.2.1, m.2.2.2.2.2.2.2.2.2.2.2.2.2.2.1, m.2.2.2.2.2.2.2.2.2.2.2.2.2.2.2.1, ())
noncomputable def sD (w : aX) (m : bt) : aX := fG w (w.2.2.2.1 ++ [ee (gO w.1 w.2.1 m.1) (ew m)] ++ cB w.2.2.1 m.1 (EY m))
theorem Gd (w : aX) {k : Nat} (hk : k < w.2.2.1.length) (h1 : w.2.2.1.length ≤ 5) (h2 : w.2.2.2.1.length ≤ 1073741823) (h3 : w.2.1.length ≤ 1048576) (h4 : (w.2.2.1[k]).2.2.2.1.length ≤ 1048576) (h5 : (w.2.2.1[k]).2.2.2.2.2.2.2.2.2.2.2.2.2.2.2.1.length ≤ 1048576) :
   jS w.1 w.2.1 w.2.2.1 w.2.2.2.1 w.2.2.2.2.1 w.2.2.2.2.2.1 ((k : Nat) : Int) = (bif n6 (ew w.2.2.1[k]) then some ((1 : Int), w.1, w.2.1, w.2.2.1, w.2.2.2.1, w.2.2.2.2.1, w.2.2.2.2.2.1, ()) else some ((0 : Int), (sD w w.2.2.1[k]).1, (sD w w.2.2.1[k]).2.1, (sD w w.2.2.1[k]).2.2.1, (sD w w.2.2.1[k]).2.2.2.1, (sD w w.2.2.1[k]).2.2.2.2.1, (sD w w.2.2.1[k]).2.2.2.2.2.1, ())) := by
 generalize hm : w.2.2.1[k] = m at *; have l1 := bd (round := gm) (e := .inl (w.1, w.2.1, w.2.2.1, w.2.2.2.1, w.2.2.2.2.1, w.2.2.2.2.2.1, m.1, m.2.1, m.2.2.1, m.2.2.2.1, m.2.2.2.2.1, m.2.2.2.2.2.1, m.2.2.2.2.2.2.1, m.2.2.2.2.2.2.2.1, m.2.2.2.2.2.2.2.2.1, m.2.2.2.2.2.2.2.2.2.1, m.2.2.2.2.2.2.2.2.2.2.1, m.2.2.2.2.2.2.2.2.2.2.2.1, m.2.2.2.2.2.2.2.2.2.2.2.2.1, m.2.2.2.2.2.2.2.2.2.2.2.2.2.1, m.2.2.2.2.2.2.2.2.2.2.2.2.2.2.1, m.2.2.2.2.2.2.2.2.2.2.2.2.2.2.2.1, EY m, ())) m.2.2.2.1.length (fun i => (w.1, w.2.1, w.2.2.1, w.2.2.2.1, w.2.2.2.2.1, w.2.2.2.2.2.1, m.1, m.2.1, m.2.2.1, m.2.2.2.1, m.2.2.2.2.1, m.2.2.2.2.2.1, m.2.2.2.2.2.2.1, m.2.2.2.2.2.2.2.1, m.2.2.2.2.2.2.2.2.1, m.2.2.2.2.2.2.2.2.2.1, m.2.2.2.2.2.2.2.2.2.2.1, m.2.2.2.2.2.2.2.2.2.2.2.1, m.2.2.2.2.2.2.2.2.2.2.2.2.1, m.2.2.2.2.2.2.2.2.2.2.2.2.2.1, m.2.2.2.2.2.2.2.2.2.2.2.2.2.2.1, m.2.2.2.2.2.2.2.2.2.2.2.2.2.2.2.1, (m.2.2.2.1.take i).filter (fun x => decide (x.2.1 = m.1)), ((i : Nat) : Int), ())) (by
   simp only [gm, nT, az, cond_false, List.take_length]; rfl) (fun i hi => by
   have hb : Nat.ble ((((m.2.2.2.1.take i).filter (fun x => decide (x.2.1 = m.1))).length + 1) * 40) lim = true := aF (by
     have := List.length_filter_le (fun x : cu => decide (x.2.1 = m.1)) (m.2.2.2.1.take i); rw [List.length_take] at this; unfold lim; omega)
   rw [List.take_succ_eq_append_getElem hi, List.filter_append, List.filter_cons]; simp only [gm, nT, aw hi, ak, cond_true, au, List.getElem?_eq_getElem hi, Option.bind_some, aC (show i < 4611686018427387904 by omega), hb]
   by_cases e : (m.2.2.2.1[i]).2.1 = m.1
   · rw [af e]; rfl
   · rw [ai e]; simp only [cond_false]; rw [if_neg (by decide)]; simp)
 have l1 : aA gm (w.1, w.2.1, w.2.2.1, w.2.2.2.1, w.2.2.2.2.1, w.2.2.2.2.2.1, m.1, m.2.1, m.2.2.1, m.2.2.2.1, m.2.2.2.2.1, m.2.2.2.2.2.1, m.2.2.2.2.2.2.1, m.2.2.2.2.2.2.2.1, m.2.2.2.2.2.2.2.2.1, m.2.2.2.2.2.2.2.2.2.1, m.2.2.2.2.2.2.2.2.2.2.1, m.2.2.2.2.2.2.2.2.2.2.2.1, m.2.2.2.2.2.2.2.2.2.2.2.2.1, m.2.2.2.2.2.2.2.2.2.2.2.2.2.1, m.2.2.2.2.2.2.2.2.2.2.2.2.2.2.1, m.2.2.2.2.2.2.2.2.2.2.2.2.2.2.2.1, [], (0 : Int), ()) = _ := l1; unfold jS; have hb : dR m.2.2.2.2.2.2.2.2.2.2.1 m.2.2.2.2.2.2.2.2.2.2.2.1 m.2.2.2.2.2.2.2.2.2.2.2.2.1 m.2.2.2.2.2.2.2.2.2.2.2.2.2.1 m.2.2.2.2.2.2.2.2.2.2.2.2.2.2.1 m.2.2.2.2.2.2.2.2.2.2.2.2.2.2.2.1 = some (n6 (ew m), ()) := (rB (ew m)).1; simp only [ak, cond_true, au, List.getElem?_eq_getElem hk, hm, Option.bind_some, hb]
 cases n6 (ew m)
 · have t1 : jR w.1 w.2.1 w.2.2.1 w.2.2.2.1 w.2.2.2.2.1 w.2.2.2.2.2.1 m.1 m.2.2.2.2.2.2.2.2.2.2.1 m.2.2.2.2.2.2.2.2.2.2.2.1 m.2.2.2.2.2.2.2.2.2.2.2.2.1 m.2.2.2.2.2.2.2.2.2.2.2.2.2.1 m.2.2.2.2.2.2.2.2.2.2.2.2.2.2.1 m.2.2.2.2.2.2.2.2.2.2.2.2.2.2.2.1 = _ := Bb w m.1 (ew m) h3 (by omega) h5; have t2 := Eh (fG w (w.2.2.2.1 ++ [ee (gO w.1 w.2.1 m.1) (ew m)])) m.1 (EY m) h1 (by show (w.2.2.2.1 ++ [_]).length ≤ _; rw [List.length_append, List.length_singleton]; omega) (Nat.le_trans (List.length_filter_le _ _) h4); simp only [cond_false, l1, bz, t1, Option.bind_some, t2]; rfl
 · rfl
structure I9 (f : la) : Prop where
 tok : f.2.1 = true → z7 (f.2.2.1, f.2.2.2.1, f.2.2.2.2.1, f.2.2.2.2.2.1, f.2.2.2.2.2.2.1, f.2.2.2.2.2.2.2.1, ())
 item : f.2.1 = false → lD (f.2.2.2.2.2.2.2.2.1, f.2.2.2.2.2.2.2.2.2.1, f.2.2.2.2.2.2.2.2.2.2.1, f.2.2.2.2.2.2.2.2.2.2.2.1, ())
 vn : f.2.2.2.2.2.2.2.1.length ≤ 20
structure cW (n : Nat) (c : Int) (ms : bV) (w : aX) : Prop where
 ring : lk c ms
 self : w.1 = c ∧ w.2.1 = ms
 len : w.2.2.1.length = ms.length
 ids : ∀ k (hk : k < w.2.2.1.length) (hm : k < ms.length), (w.2.2.1[k]).1 = ms[k].1
 ld : ∀ m ∈ w.2.2.1, pH m ∧ m.2.1 = c ∧ m.2.2.1 = ms
 iG : ∀ f ∈ w.2.2.2.1, I9 f
 vn : w.2.2.2.1.length ≤ 400 * (n + 1)
 heard : w.2.2.2.2.1.length = ms.length
 list : ∀ h ∈ w.2.2.2.2.1, h.1.length ≤ 60 * n
 said : (∀ x ∈ w.2.2.2.2.2.1, lD x) ∧ w.2.2.2.2.2.1.length ≤ 63 * n
theorem cW.up {n n' : Nat} {c : Int} {ms : bV} {w : aX} (h : cW n c ms w) (hn : n ≤ n') : cW n' c ms w :=
 { h with vn := by have := h.vn; omega, list := fun x hx => by have := h.list x hx; omega, said := ⟨h.said.1, by have := h.said.2; omega⟩ }
theorem cW.gS {n : Nat} {c : Int} {ms : bV} {w : aX} (h : cW n c ms w) {k : Nat} (hk : k < w.2.2.1.length) {m : bt} (hm : pH m) (h1 : m.1 = (w.2.2.1[k]).1) (h2 : m.2.1 = (w.2.2.1[k]).2.1) (h3 : m.2.2.1 = (w.2.2.1[k]).2.2.1) : cW n c ms (nt w k m) :=
 { h with
   len := by show (w.2.2.1.set k m).length = _; rw [List.length_set]; exact h.len
   ids := fun j hj Bs => by
     have hj : j < (w.2.2.1.set k m).length := hj; show ((w.2.2.1.set k m)[j]).1 = _; rw [List.getElem_set]; rw [List.length_set] at hj
     split
     · rename_i e; subst e; rw [h1]; exact h.ids k hk Bs
     · exact h.ids j hj Bs
   ld := fun x hx => by
     have hx : x ∈ w.2.2.1.set k m := hx; rcases List.mem_or_eq_of_mem_set hx with hx | rfl
     · exact h.ld x hx
     · have := h.ld _ (List.getElem_mem hk); exact ⟨hm, h2.trans this.2.1, h3.trans this.2.2⟩ }
theorem cW.my {n : Nat} {c : Int} {ms : bV} {w : aX} (h : cW n c ms w) {l : List la} (h1 : ∀ f ∈ l, I9 f) (h2 : l.length ≤ 400 * (n + 1)) : cW n c ms (fG w l) := { h with iG := h1, vn := h2 }
theorem Ei {a : Int} {t : jZ} (h : z7 t) : I9 (ee a t) := ⟨fun _ => h, fun e => (by cases e), h.2.2.2.2.2.1⟩
theorem Ge {ms : List bt} {id : Int} {l : aG} (h : ∀ x ∈ l, lD x) : ∀ f ∈ cB ms id l, I9 f := by
 intro f hf; obtain ⟨m, _, x, hx, _, rfl⟩ := td hf; exact ⟨fun e => (by cases e), fun _ => h x hx, Nat.zero_le _⟩
theorem cW.Bc {n : Nat} {c : Int} {ms : bV} {w : aX} (h : cW n c ms w) : w.2.2.1.length ≤ 5 ∧ w.2.1.length ≤ 5 ∧ ms.length ≤ 5 := by
 have := h.ring.2.1.2; have := h.len; rw [h.self.2]; omega
theorem Ej {m : bt} (hm : pH m) {x : cu} (hx : lD x) : pH (qA m (lu m.2.2.2.1 x)) := by
 have hi := (bj _ hm.items).1; have hp := yK hm.items hx; have Of := (bj _ hp).1; have ha : bE m.2.2.2.1 ≤ bE (lu m.2.2.2.1 x) := Ad (by omega) (by omega) fun r hr => ⟨r, xa hr, rfl⟩
 exact { hm with
   items := hp
   line := ⟨hm.line.1, by have := hm.line.2; show m.2.2.2.2.2.2.2.2.1 ≤ ((bE (lu m.2.2.2.1 x) : Nat) : Int); omega⟩
   heard := ⟨hm.heard.1, by have := hm.heard.2; show m.2.2.2.2.2.2.2.2.2.1 ≤ ((bE (lu m.2.2.2.1 x) : Nat) : Int); omega⟩ }
theorem tf {m : bt} (hm : pH m) {x : cu} (hx : lD x) : pI m x = qA m (lu m.2.2.2.1 x) := by
 have hi := (bj _ hm.items).1; unfold pI NN; rw [(uQ m (Nat.le_trans hm.small (by decide))).2.2.2 hm, (wC _ (by omega)).2.2.2 hm.items, (zZ x).2.2.2 hx]; rfl
end Go.TM
set_option linter.unusedSimpArgs false
set_option linter.unusedVariables false
namespace Go.TM
open Go
theorem Ja {ms : bV} (h : KU ms ms.length) {i j : Nat} (hj : j < ms.length) (Q7 : i < j) : (ms[i]'(by omega)).1 < ms[j].1 := by
 have key : ∀ (d i : Nat) (hi : i + d + 1 < ms.length), ms[i].1 < ms[i + d + 1].1 := by
   intro d
   induction d with
   | zero => intro i hi; exact (h (i + 1) hi hi).2 (by omega)
   | succ d ih =>
     intro i hi; have h1 := ih i (by omega); have h2 := (h (i + (d + 1) + 1) hi hi).2 (by omega); have e : i + (d + 1) + 1 - 1 = i + d + 1 := by omega
     simp only [e] at h2; omega
 have := key (j - i - 1) i (by omega); simpa [show i + (j - i - 1) + 1 = j by omega] using this
theorem Ct {ms : bV} (h : KU ms ms.length) {i j : Nat} (hi : i < ms.length) (hj : j < ms.length) (e : ms[i].1 = ms[j].1) : i = j := by
 by_cases h1 : i < j
 · have := Ja h hj h1; omega
 by_cases h2 : j < i
 · have := Ja h hi h2; omega
 omega
theorem QK {c : Int} {ms : bV} (hr : lk c ms) {k : Nat} (hk : k < ms.length) (hm : (k + 1) % ms.length < ms.length) : gO c ms ms[k].1 = ms[(k + 1) % ms.length].1 := by
 have hl := hr.2.1.2; have h := (lR c ms (by omega)).1; rw [(lR c ms (by omega)).2.2.2 hr] at h; obtain ⟨e, he, hq⟩ := dV (round := cz) (x := (ms[k].1, c, ms, ((0 : Nat) : Int), ())) ms.length (fun j x => x = (ms[k].1, c, ms, ((j : Nat) : Int), ()) ∧ j ≤ k) (fun e => e = .inr (ms[(k + 1) % ms.length].1, ())) (by
     rintro x ⟨_, g⟩
     omega) (by
     rintro j x hj ⟨rfl, g⟩
     simp only [cz, ji, aw hj, ak, cond_true, au, List.getElem?_eq_getElem hj, Option.bind_some, aC (show j < 4611686018427387904 by omega), xc, ai (show ¬ ((List.length ms : Nat) : Int) = 0 by omega), cond_false]
     by_cases e : ms[j].1 = ms[k].1
     · have := Ct hr.2.2 hj hk e; subst this; rw [af e, List.getElem?_eq_getElem hm]; exact .inl ⟨_, rfl, rfl⟩
     · rw [ai e]; refine .inr ⟨_, rfl, rfl, ?_⟩
       by_cases e2 : j = k
       · subst e2; exact absurd rfl e
       · omega) ⟨rfl, Nat.zero_le _⟩
 have he : aA cz (ms[k].1, c, ms, (0 : Int), ()) = some e := he; subst hq; unfold gO bO; rw [h]; simp only [Option.bind_some, Bool.not_true, cond_false, he, bz]
structure Be (R : Nat) (S : Int) (ms : bV) (f : la) : Prop where
 tok : f.2.1 = true → ∃ r : Nat, 1 ≤ r ∧ r ≤ R ∧ f.2.2.2.1 = ((r : Nat) : Int) ∧ (∃ x, ms[(r - 1) % ms.length]? = some x ∧ f.1 = x.1) ∧ (r = R → f.2.2.2.2.1 = S)
 item : f.2.1 = false → f.2.2.2.2.2.2.2.2.1 ≤ S
structure tg (R : Nat) (S : Int) (len k : Nat) (m : bt) : Prop where
 items : ∀ x ∈ m.2.2.2.1, x.1 ≤ S
 last : ∃ q : Nat, m.2.2.2.2.2.2.1 = ((q : Nat) : Int) ∧ q < R ∧ (∀ r, 1 ≤ r → r < R → (r - 1) % len = k → r ≤ q) ∧ (Blank (ew m) ∨ (1 ≤ q ∧ (q - 1) % len = k ∧ (ew m).2.1 = ((q + 1 : Nat) : Int) ∧ (q + 1 = R → (ew m).2.2.1 = S)))
structure pK (R : Nat) (S : Int) (ms : bV) (w : aX) : Prop where
 iG : ∀ f ∈ w.2.2.2.1, Be R S ms f
 gS : ∀ k (hk : k < w.2.2.1.length), tg R S ms.length k w.2.2.1[k]
 said : ∀ x ∈ w.2.2.2.2.2.1, x.1 ≤ S
theorem pK.Ah {R : Nat} {S : Int} {ms : bV} {w : aX} (h : pK R S ms w) {k : Nat} (hk : k < w.2.2.1.length) {m : bt} (hm : tg R S ms.length k m) : pK R S ms (nt w k m) :=
 { iG := h.iG
   said := h.said
   gS := fun j hj => by
     have hj : j < (w.2.2.1.set k m).length := hj; show tg R S ms.length j (w.2.2.1.set k m)[j]; rw [List.getElem_set]; rw [List.length_set] at hj
     split
     · rename_i e; subst e; exact hm
     · exact h.gS j hj }
theorem pK.my {R : Nat} {S : Int} {ms : bV} {w : aX} (h : pK R S ms w) {l : List la} (hl : ∀ f ∈ l, Be R S ms f) : pK R S ms (fG w l) := { iG := hl, gS := h.gS, said := h.said }
theorem tg.same {R : Nat} {S : Int} {len k : Nat} {m m' : bt} (h : tg R S len k m) (h1 : m'.2.2.2.1 = m.2.2.2.1) (h2 : m'.2.2.2.2.2.2.1 = m.2.2.2.2.2.2.1) (h3 : ew m' = ew m) : tg R S len k m' := ⟨h1 ▸ h.items, by rw [h2, h3]; exact h.last⟩
theorem Ug {R : Nat} {S : Int} {ms : bV} {mt : List bt} {id : Int} {l : aG} (h : ∀ x ∈ l, x.1 ≤ S) : ∀ f ∈ cB mt id l, Be R S ms f := by
 intro f hf; obtain ⟨m, _, x, hx, _, rfl⟩ := td hf; exact ⟨fun e => (by cases e), fun _ => h x hx⟩
theorem QL {n q k : Nat} (h1 : 1 ≤ q) (h : (q - 1) % n = k) : (q + 1 - 1) % n = (k + 1) % n := by
 have : q = (q - 1) + 1 := by omega
 rw [Nat.add_sub_cancel, ← h, Nat.mod_add_mod, ← this]
theorem adq {R : Nat} {S : Int} {c : Int} {ms : bV} (hr : lk c ms) {k : Nat} (hk : k < ms.length) {t : jZ} {q : Nat} (h1 : 1 ≤ q) (hq : (q - 1) % ms.length = k) (hR : q + 1 ≤ R) (h2 : t.2.1 = ((q + 1 : Nat) : Int)) (h3 : q + 1 = R → t.2.2.1 = S) : Be R S ms (ee (gO c ms ms[k].1) t) := by
 have hm : (k + 1) % ms.length < ms.length := Nat.mod_lt _ (by omega); refine ⟨fun _ => ⟨q + 1, by omega, hR, h2, ⟨ms[(k + 1) % ms.length], ?_, ?_⟩, h3⟩, fun e => (by cases e)⟩
 · rw [QL h1 hq]; exact List.getElem?_eq_getElem hm
 · exact QK hr hk hm
theorem Bf {R : Nat} {S : Int} {n : Nat} {c : Int} {ms : bV} {w : aX} (h : cW n c ms w) (hR : pK R S ms w) {k : Nat} (hk : k < w.2.2.1.length) (hb : ¬ Blank (ew w.2.2.1[k])) : pK R S ms (sD w w.2.2.1[k]) := by
 have kQ : k < ms.length := by rw [← h.len]; exact hk
 obtain ⟨q, q1, q2, q3, q4⟩ := (hR.gS k hk).last; refine hR.my fun f hf => ?_
 rcases List.mem_append.1 hf with hf | hf
 · rcases List.mem_append.1 hf with hf | hf
   · exact hR.iG f hf
   · rw [List.mem_singleton] at hf; subst hf; rcases q4 with q4 | ⟨g1, g2, g3, g4⟩
     · exact absurd q4 hb
     · rw [h.self.1, h.self.2, h.ids k hk kQ]; exact adq h.ring kQ g1 g2 (by omega) g3 g4
 · exact Ug (fun x hx => (hR.gS k hk).items x (List.mem_filter.1 hx).1) f hf
theorem Bg {R : Nat} {S : Int} {len k : Nat} {m : bt} (h : tg R S len k m) {x : cu} (hx : x.1 ≤ S) : tg R S len k (qA m (lu m.2.2.2.1 x)) :=
 ⟨fun y hy => by
   have hy : y ∈ lu m.2.2.2.1 x := hy; rcases s9 hy with rfl | hy
   · exact hx
   · exact h.items y hy, h.last⟩
theorem xd {R : Nat} {S : Int} {n : Nat} {c : Int} {ms : bV} {w : aX} (h : cW n c ms w) (hR : pK R S ms w) {f : la} (hf : Be R S ms f) (ht : f.2.1 = true) {k : Nat} (hk : k < w.2.2.1.length) (pM : (w.2.2.1[k]).1 = f.1) (hr : (w.2.2.1[k]).2.2.2.2.2.2.1 < f.2.2.2.1) : 1 ≤ R ∧ (R - 1) % ms.length = k ∧ f.2.2.2.1 = ((R : Nat) : Int) ∧ f.2.2.2.2.1 = S := by
 have kQ : k < ms.length := by rw [← h.len]; exact hk
 obtain ⟨r, r1, r2, r3, ⟨x, x1, x2⟩, r4⟩ := hf.tok ht; obtain ⟨q, q1, q2, q3, _⟩ := (hR.gS k hk).last; have hm : (r - 1) % ms.length < ms.length := Nat.mod_lt _ (by omega); rw [List.getElem?_eq_getElem hm] at x1; injection x1 with x1; have hi : (r - 1) % ms.length = k := Ct h.ring.2.2 hm kQ (by rw [x1, ← x2, ← pM, h.ids k hk kQ])
 by_cases e : r < R
 · have := q3 r r1 e hi; omega
 · have : r = R := by omega
   subst this; exact ⟨r1, hi, r3, r4 rfl⟩
def Hb (ms : bV) (w w' : aX) : Prop := ∀ R S, pK R S ms w → ∃ R' S', pK R' S' ms w'
theorem Be.up {R : Nat} {S : Int} {ms : bV} {f : la} (h : Be R S ms f) {j : Nat} : Be (R + 1) (S + ((j : Nat) : Int)) ms f :=
 ⟨fun e => by
   obtain ⟨r, r1, r2, r3, r4, _⟩ := h.tok e; exact ⟨r, r1, by omega, r3, r4, fun h => by omega⟩, fun e => by have := h.item e; omega⟩
end Go.TM
