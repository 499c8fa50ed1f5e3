/- Plain facts for DiskLoses: what a loss leaves of each sector. -/
import Derived.Test.YtcgmnmohpkolmaaDiskKeepsPure
import Derived.Test.YtcgmnmohpkolmaaDiskClone2
import Derived.Maps.Views
import Derived.Maps.Own
import Derived.Maps.OwnSet
namespace Go.Proofs.Ytcgmnmohpkolmaa
open Go.RowKit Go.Proofs.YtcgmnmohpkolmaaW.PrintWords Go.Proofs.YtcgmnmohpkolmaaW.PrintLast Go.Proofs.YtcgmnmohpkolmaaW.PrintMore
set_option linter.unusedVariables false
set_option linter.unusedSimpArgs false
/-- A sector as it was, and as it is written anew. -/
def oldS (j : Nat) : List Int := List.replicate 64 (10 + (j : Int))
def newS (j : Nat) : List Int := List.replicate 64 (100 + (j : Int))
structure Live (s : DS) : Prop where
  dead : s.dead = false
  lit : s.lit = false
  left : s.left = 0
theorem Live.acted {s : DS} (h : Live s) : s.acted = s := by
  obtain ⟨now, old, pend, dead, lit, left⟩ := s
  obtain ⟨h1, h2, h3⟩ := h
  simp only at h1 h2 h3
  subst h1 h2 h3
  rfl
theorem Live.act {s : DS} (h : Live s) : s.act = true := by simp [DS.act, h.lit]
theorem write_live {s : DS} (h : Live s) (N k : Nat) (hk : k < N) (b : List Int) (hb : b.length = 64) : s.write N k b = (0, s.put k b) := by
  unfold DS.write
  rw [if_neg (by simp [h.dead]), if_neg (by simp [isB, hb, hk]), if_neg (by simp [h.act]), h.acted, Int.toNat_natCast]
theorem barrier_live {s : DS} (h : Live s) : s.barrier = (0, s.settled) := by
  unfold DS.barrier
  rw [if_neg (by simp [h.dead]), if_neg (by simp [h.act]), h.acted]
theorem Live.put {s : DS} (h : Live s) (k : Nat) (b : List Int) : Live (s.put k b) := ⟨h.dead, h.lit, h.left⟩
theorem Live.settled {s : DS} (h : Live s) : Live s.settled := ⟨h.dead, h.lit, h.left⟩
theorem trues_count (l : List Bool) : ∀ n, (trues n l).length = l.count true := by
  induction l with
  | nil => intro n; rfl
  | cons b l ih =>
    intro n
    unfold trues
    cases b <;> simp [ih]
theorem trues_mem (l : List Bool) : ∀ n, ∀ x ∈ trues n l, ∃ j : Nat, j < l.length ∧ x = ((n + j : Nat) : Int) ∧ l.getD j false = true := by
  induction l with
  | nil => intro n x hx; simp [trues] at hx
  | cons b l ih =>
    intro n x hx
    simp only [trues] at hx
    have key : x ∈ trues (n + 1) l → ∃ j : Nat, j < (b :: l).length ∧ x = ((n + j : Nat) : Int) ∧ (b :: l).getD j false = true := fun h => by
      obtain ⟨j, hj, e, ht⟩ := ih (n + 1) x h
      exact ⟨j + 1, by simp; omega, by omega, by simpa using ht⟩
    split at hx
    · rename_i hb
      rcases List.mem_cons.1 hx with rfl | hx
      · exact ⟨0, by simp, by simp, by simpa using hb⟩
      · exact key hx
    · exact key hx
theorem trues_nodup (l : List Bool) : ∀ n, ((trues n l).map Int.toNat).Nodup := by
  induction l with
  | nil => intro n; simp [trues]
  | cons b l ih =>
    intro n
    simp only [trues]
    split
    · rw [List.map_cons, List.nodup_cons]
      refine ⟨fun h => ?_, ih _⟩
      obtain ⟨x, hx, e⟩ := List.mem_map.1 h
      have := trues_bd l (n + 1) x hx
      simp at e
      omega
    · exact ih _
theorem lose_zero (old : List (List Int)) (keep : Int) : ∀ (P : List Int) (k : Nat) (now : List (List Int)), (∀ i ∈ P, i.toNat < now.length) →
    ∀ j, (lose old keep k 0 P now).getD j [] = now.getD j [] ∨ (j ∈ P.map Int.toNat ∧ (lose old keep k 0 P now).getD j [] = old.getD j []) := by
  intro P
  induction P with
  | nil => intro k now _ j; exact .inl rfl
  | cons i P ih =>
    intro k now h j
    unfold lose
    split
    · rcases ih (k + 1) now (fun x hx => h x (by simp [hx])) j with e | ⟨m, e⟩
      · exact .inl e
      · exact .inr ⟨by simp only [List.map_cons]; exact List.mem_cons_of_mem _ m, e⟩
    · rcases ih (k + 1) (lost old now i.toNat 0) (fun x hx => by rw [lost_length]; exact h x (by simp [hx])) j with e | ⟨m, e⟩
      · by_cases hj : i.toNat = j
        · subst hj
          right
          refine ⟨by simp, ?_⟩
          rw [e, lost_same _ _ _ _ (h i (by simp))]
          simp
        · left
          rw [e, lost_other _ _ _ _ _ hj]
      · exact .inr ⟨by simp only [List.map_cons]; exact List.mem_cons_of_mem _ m, e⟩
theorem lose_shape (old : List (List Int)) (keep : Int) (t M : Nat) : ∀ (P : List Int) (k : Nat) (now : List (List Int)), (∀ i ∈ P, i.toNat < now.length) → (P.map Int.toNat).Nodup →
    ∃ q : Nat, (∀ j, j ≠ q → (lose old keep k t P now).getD j [] = now.getD j [] ∨ (j ∈ P.map Int.toNat ∧ (lose old keep k t P now).getD j [] = old.getD j [])) ∧
      (q = M ∨ (q ∈ P.map Int.toNat ∧ (lose old keep k t P now).getD q [] = (now.getD q []).take t ++ (old.getD q []).drop t)) := by
  intro P
  induction P with
  | nil => intro k now _ _; exact ⟨M, fun j _ => .inl rfl, .inl rfl⟩
  | cons i P ih =>
    intro k now h hn
    rw [List.map_cons, List.nodup_cons] at hn
    unfold lose
    split
    · obtain ⟨q, h1, h2⟩ := ih (k + 1) now (fun x hx => h x (by simp [hx])) hn.2
      refine ⟨q, fun j hj => ?_, ?_⟩
      · rcases h1 j hj with e | ⟨m, e⟩
        · exact .inl e
        · exact .inr ⟨by simp only [List.map_cons]; exact List.mem_cons_of_mem _ m, e⟩
      · rcases h2 with e | ⟨m, e⟩
        · exact .inl e
        · exact .inr ⟨by simp only [List.map_cons]; exact List.mem_cons_of_mem _ m, e⟩
    · have hz := lose_zero old keep P (k + 1) (lost old now i.toNat t) (fun x hx => by rw [lost_length]; exact h x (by simp [hx]))
      refine ⟨i.toNat, fun j hj => ?_, .inr ⟨by simp, ?_⟩⟩
      · rcases hz j with e | ⟨m, e⟩
        · left
          rw [e, lost_other _ _ _ _ _ (fun e => hj e.symm)]
        · exact .inr ⟨by simp only [List.map_cons]; exact List.mem_cons_of_mem _ m, e⟩
      · rcases hz i.toNat with e | ⟨m, e⟩
        · rw [e, lost_same _ _ _ _ (h i (by simp))]
        · exact absurd m hn.1
/-- While the first writes run. -/
structure P1 (k : Nat) (s : DS) : Prop where
  live : Live s
  now : ∀ j, j < k → s.now.getD j [] = oldS j
  pend : ∀ j, j < k → s.pend.getD j false = true
theorem getD_set_same {α : Type} (l : List α) (i : Nat) (x d : α) (h : i < l.length) : (l.set i x).getD i d = x := by simp [List.getD, h]
theorem getD_set_other {α : Type} (l : List α) (i j : Nat) (x d : α) (h : i ≠ j) : (l.set i x).getD j d = l.getD j d := by simp [List.getD, List.getElem?_set_ne h]
theorem P1.step {N k : Nat} {s : DS} (h : P1 k s) (hs : s.ok N) (hk : k < N) : P1 (k + 1) (s.put k (oldS k)) := by
  refine ⟨h.live.put _ _, fun j hj => ?_, fun j hj => ?_⟩
  · by_cases e : k = j
    · subst e
      exact getD_set_same _ _ _ _ (by rw [hs.now.1]; exact hk)
    · show (s.now.set k _).getD j [] = _
      rw [getD_set_other _ _ _ _ _ e]
      exact h.now j (by omega)
  · by_cases e : k = j
    · subst e
      exact getD_set_same _ _ _ _ (by rw [hs.pend]; exact hk)
    · show (s.pend.set k true).getD j false = _
      rw [getD_set_other _ _ _ _ _ e]
      exact h.pend j (by omega)
theorem P1.pending {N : Nat} {s : DS} (h : P1 N s) (hs : s.ok N) : s.pending.length = N := by
  unfold DS.pending
  rw [trues_count]
  have e : s.pend = List.replicate N true := by
    apply List.ext_getElem?
    intro j
    by_cases hj : j < N
    · have := h.pend j hj
      rw [List.getElem?_replicate, if_pos hj]
      have hl : j < s.pend.length := by rw [hs.pend]; exact hj
      simp only [List.getD, List.getElem?_eq_getElem hl, Option.getD_some] at this
      rw [List.getElem?_eq_getElem hl, this]
    · rw [List.getElem?_eq_none (by rw [hs.pend]; omega), List.getElem?_eq_none (by simp; omega)]
  rw [e, List.count_replicate_self]
/-- While the later writes run: the map holds what was written. -/
structure P3 (N : Nat) (D : DataW Nat) (s : DS) : Prop where
  live : Live s
  old : ∀ j, j < N → s.old.getD j [] = oldS j
  now : ∀ j, j < N → s.now.getD j [] = if s.pend.getD j false = true then newS j else oldS j
  tidy : Maps.Tidy D
  has : ∀ j : Nat, j < N → Maps.has D (.int .i64 j) = s.pend.getD j false
  key : ∀ j : Nat, j < N → D.atKey (.int .i64 j) (.lit (.bool false)) = .lit (.bool (s.pend.getD j false))
  size : Maps.size D = s.pend.count true
theorem P1.settle {N : Nat} {s : DS} (h : P1 N s) (hs : s.ok N) : P3 N (.map []) s.settled ∧ s.settled.pending.length = 0 := by
  have hp : ∀ j, s.settled.pend.getD j false = false := fun j => by
    show (List.replicate s.pend.length false).getD j false = false
    simp only [List.getD, List.getElem?_replicate]
    split <;> rfl
  have hc : s.settled.pend.count true = 0 := by
    show (List.replicate s.pend.length false).count true = 0
    simp [List.count_replicate]
  refine ⟨⟨h.live.settled, h.now, fun j hj => ?_, Maps.tidy_empty, fun j hj => ?_, fun j hj => ?_, ?_⟩, ?_⟩
  · rw [hp j, if_neg (by decide)]
    exact h.now j hj
  · rw [hp j]; rfl
  · rw [hp j]; rfl
  · rw [hc]; rfl
  · unfold DS.pending
    rw [trues_count, hc]
theorem P3.step {N k : Nat} {D : DataW Nat} {s : DS} (h : P3 N D s) (hs : s.ok N) (hk : k < N) : P3 N (D.put (.int .i64 k) (.lit (.bool true))) (s.put k (newS k)) := by
  have hlit : WideAt.IsKeyLit (.int .i64 (k : Int)) := by trivial
  have hne : ∀ j : Nat, k ≠ j → (Lit.int .i64 (j : Int)) ≠ .int .i64 (k : Int) := fun j e h => by
    injection h with _ h
    omega
  have hkl : k < s.pend.length := by rw [hs.pend]; exact hk
  refine ⟨h.live.put _ _, h.old, fun j hj => ?_, h.tidy.put hlit _, fun j hj => ?_, fun j hj => ?_, ?_⟩
  · show (s.now.set k (newS k)).getD j [] = if (s.pend.set k true).getD j false = true then _ else _
    by_cases e : k = j
    · subst e
      rw [getD_set_same _ _ _ _ (by rw [hs.now.1]; exact hk), getD_set_same _ _ _ _ hkl, if_pos rfl]
    · rw [getD_set_other _ _ _ _ _ e, getD_set_other _ _ _ _ _ e]
      exact h.now j hj
  · show _ = (s.pend.set k true).getD j false
    by_cases e : k = j
    · subst e
      rw [getD_set_same _ _ _ _ hkl, Maps.has_put_same h.tidy.isMap hlit]
    · rw [getD_set_other _ _ _ _ _ e, Maps.has_put_other (hne j e)]
      exact h.has j hj
  · show _ = DataW.lit (.bool ((s.pend.set k true).getD j false))
    by_cases e : k = j
    · subst e
      rw [getD_set_same _ _ _ _ hkl, Maps.atKey_put_same h.tidy.isMap hlit]
    · rw [getD_set_other _ _ _ _ _ e, Maps.atKey_put_other (hne j e)]
      exact h.key j hj
  · show _ = (s.pend.set k true).count true
    rw [Maps.size_put h.tidy, h.has k hk, List.count_set hkl, h.size]
    have hc : s.pend.getD k false = true → 0 < s.pend.count true := fun ht => by
      rw [List.count_pos_iff]
      simp only [List.getD, List.getElem?_eq_getElem hkl, Option.getD_some] at ht
      exact ht ▸ List.getElem_mem hkl
    cases hb : s.pend.getD k false
    · simp only [List.getD, List.getElem?_eq_getElem hkl, Option.getD_some] at hb
      simp [hb]
    · have := hc hb
      simp only [List.getD, List.getElem?_eq_getElem hkl, Option.getD_some] at hb
      simp [hb]
      omega
/-- What a loss leaves. -/
theorem P3.losing {N : Nat} {D : DataW Nat} {s : DS} (h : P3 N D s) (hs : s.ok N) (keep torn : Int) :
    ∃ q : Nat, ∀ j, j < N → (j ≠ q → (s.crash keep torn).now.getD j [] = oldS j ∨ (s.pend.getD j false = true ∧ (s.crash keep torn).now.getD j [] = newS j)) ∧
      (j = q → s.pend.getD j false = true ∧ ∃ t : Nat, 0 < t ∧ t < 64 ∧ (s.crash keep torn).now.getD j [] = List.replicate t (100 + (j : Int)) ++ List.replicate (64 - t) (10 + (j : Int))) := by
  have hct : clamp torn ≤ 64 := by unfold clamp; omega
  have hmem : ∀ j ∈ s.pending.map Int.toNat, j < N ∧ s.pend.getD j false = true := fun j hj => by
    obtain ⟨x, hx, rfl⟩ := List.mem_map.1 hj
    obtain ⟨i, hi, e, ht⟩ := trues_mem s.pend 0 x hx
    rw [hs.pend] at hi
    rw [Nat.zero_add] at e
    subst e
    exact ⟨by simpa using hi, by simpa using ht⟩
  obtain ⟨q, h1, h2⟩ := lose_shape s.old keep (clamp torn) N s.pending 0 s.now (fun i hi => by
    rw [hs.now.1]
    exact (hmem _ (List.mem_map.2 ⟨i, hi, rfl⟩)).1) (trues_nodup s.pend 0)
  have e : (s.crash keep torn).now = lose s.old keep 0 (clamp torn) s.pending s.now := rfl
  rw [e]
  have gen : ∀ j, j < N → j ≠ q → ((lose s.old keep 0 (clamp torn) s.pending s.now).getD j [] = oldS j ∨ (s.pend.getD j false = true ∧ (lose s.old keep 0 (clamp torn) s.pending s.now).getD j [] = newS j)) := fun j hj hq => by
    rcases h1 j hq with e | ⟨m, e⟩
    · rw [e, h.now j hj]
      cases hp : s.pend.getD j false
      · exact .inl rfl
      · exact .inr ⟨rfl, rfl⟩
    · left
      rw [e, h.old j hj]
  rcases h2 with rfl | ⟨m, e2⟩
  · exact ⟨q, fun j hj => ⟨gen j hj, fun e => by omega⟩⟩
  · obtain ⟨hq, hp⟩ := hmem q m
    rw [h.now q hq, h.old q hq, hp, if_pos rfl] at e2
    by_cases hmid : 0 < clamp torn ∧ clamp torn < 64
    · refine ⟨q, fun j hj => ⟨gen j hj, fun e => ?_⟩⟩
      subst e
      refine ⟨hp, clamp torn, hmid.1, hmid.2, ?_⟩
      rw [e2]
      unfold newS oldS
      rw [List.take_replicate, List.drop_replicate, Nat.min_eq_left hct]
    · refine ⟨N, fun j hj => ⟨fun _ => ?_, fun e => by omega⟩⟩
      by_cases hjq : j = q
      · subst hjq
        rw [e2]
        by_cases h0 : clamp torn = 0
        · left
          rw [h0]
          simp
        · right
          refine ⟨hp, ?_⟩
          rw [show clamp torn = 64 from by omega]
          unfold newS oldS
          simp
      · exact gen j hj hjq
theorem crash_pending (s : DS) (keep torn : Int) : (s.crash keep torn).pending = [] := by
  unfold DS.crash DS.pending
  have : ∀ n k, trues k (List.replicate n false) = [] := fun n => by
    induction n with
    | zero => intro k; rfl
    | succ n ih => intro k; rw [List.replicate_succ]; simp [trues, ih]
  exact this _ _
theorem crash_again (s : DS) (h : s.pending = []) (keep torn : Int) : (s.crash keep torn).now = s.now := by
  show Go.Proofs.Ytcgmnmohpkolmaa.lose s.old keep 0 (clamp torn) s.pending s.now = s.now
  rw [h]
  rfl
theorem oldS_ne (j : Nat) : oldS j ≠ newS j := ne_of_rd 0 (by rw [show ((0 : Nat) : Int) = 0 from rfl]; unfold oldS newS; simp [rd])
theorem mix_old (j t : Nat) (h0 : 0 < t) : List.replicate t (100 + (j : Int)) ++ List.replicate (64 - t) (10 + (j : Int)) ≠ oldS j := ne_of_rd 0 (by
  obtain ⟨t, rfl⟩ : ∃ u, t = u + 1 := ⟨t - 1, by omega⟩
  unfold oldS
  simp [rd, List.replicate_succ])
theorem mix_new (j t : Nat) (h1 : t < 64) : List.replicate t (100 + (j : Int)) ++ List.replicate (64 - t) (10 + (j : Int)) ≠ newS j := ne_of_rd t (by
  have e : rd (List.replicate t (100 + (j : Int)) ++ List.replicate (64 - t) (10 + (j : Int))) t = 10 + (j : Int) := by
    simp only [rd, Int.toNat_natCast, List.getD]
    rw [List.getElem?_append_right (by simp), List.length_replicate, Nat.sub_self, List.getElem?_replicate, if_pos (by omega)]
    rfl
  rw [e]
  unfold newS
  rw [rd_rep _ _ _ h1]
  omega)
theorem mix_rd_lt (t m : Nat) (x y : Int) (h : m < t) : rd (List.replicate t x ++ List.replicate (64 - t) y) m = x := by
  simp only [rd, Int.toNat_natCast, List.getD]
  rw [List.getElem?_append_left (by simpa using h), List.getElem?_replicate, if_pos h]
  rfl
theorem mix_rd_at (t : Nat) (x y : Int) (h : t < 64) : rd (List.replicate t x ++ List.replicate (64 - t) y) t = y := by
  simp only [rd, Int.toNat_natCast, List.getD]
  rw [List.getElem?_append_right (by simp), List.length_replicate, Nat.sub_self, List.getElem?_replicate, if_pos (by omega)]
  rfl
theorem mix_drop (t : Nat) (x y : Int) : (List.replicate t x ++ List.replicate (64 - t) y).drop t = (List.replicate 64 y).drop t := by
  rw [List.drop_replicate, List.drop_left' (by simp)]
end Go.Proofs.Ytcgmnmohpkolmaa
