/- A part of the proof. Conditions: none. -/
import Derived.Test.YtcmllambknfleaaKE9
set_option linter.unusedVariables false
set_option linter.unusedSimpArgs false
namespace Go.Proofs.Ytcmllambknfleaa.E
open Go
open Classical
theorem getL_out {cs : List Cell} {j : Int} (h : cs.length ≤ j.toNat) : getL cs j = Cell.zero := by
  unfold getL
  rw [List.getD_eq_getElem?_getD, List.getElem?_eq_none h]; rfl
theorem doomed_lt {H : Heap} (h1 : R1 H) {j : Int} (h : Doomed H j) : 0 ≤ j ∧ j < H.cells.length := by
  have h0 := h1.hand
  have h2 := h.2.2.2
  refine ⟨by omega, ?_⟩
  by_cases e : j < H.cells.length
  · exact e
  · have h3 := h.2.1
    rw [getC_L, getL_out (by omega)] at h3
    simp [Cell.zero] at h3
theorem sub0 {H : Heap} (h : R6 H) (hp : H.phase ≠ 0 ∧ H.phase ≠ 4 ∧ H.phase ≠ 2 ∧ H.phase ≠ 5) : H.sub = 0 := by
  exact (r6_e hp).1 h
theorem not_mark {H : Heap} (hp : H.phase ≠ 1 ∧ H.phase ≠ 2) : ¬ Marking H := fun h => by rcases h with h | h; exact hp.1 h; exact hp.2 h
noncomputable def Heap.sweepU (H : Heap) : Heap :=
  if H.hand = H.cells.length then H.enterH 4
  else if (H.getC H.hand).state = 1 ∧ (H.getC H.hand).color = 0 then { H with used := H.used - (1 + (H.getC H.hand).pairs.length), cells := H.cells.set H.hand.toNat Cell.zero, hand := H.hand + 1 }
  else { H with cells := H.cells.set H.hand.toNat ((H.getC H.hand).col 0), hand := H.hand + 1 }
theorem enter4_sound {H : Heap} (h : Sound H) (hp : H.phase = 3) (hh : H.hand = H.cells.length) : Sound (H.enterH 4) := by
  have nd : ∀ j, ¬ Doomed H j := fun j hd => by have := doomed_lt h.r1 hd; have := hd.2.2.2; omega
  obtain ⟨g1, g2⟩ := h.r5.else_ (not_mark (by omega))
  refine ⟨{ h.r1 with phase := by simp [Heap.enterH], hand := by simp [Heap.enterH], sub := by simp [Heap.enterH] }, ⟨fun j d hd => ?_, h.r2.born, h.r2.to⟩, h.r3, ?_, ⟨fun hn => ?_, fun _ => ⟨g1, fun i c hc => ⟨(g2 i c hc).1, fun e => ?_⟩⟩⟩, ?_, R7.nil ?_, R8.nil (by simp [Heap.enterH])⟩
  · rcases h.r2.each j d hd with h1 | h1 | h1
    · exact .inl h1
    · have := h1.2.2.1; omega
    · exact .inr (.inr h1)
  · exact r4_frame h.r4 rfl rfl (fun _ => rfl) (fun j => ⟨fun h => by have := h.1; simp [Heap.enterH] at this, fun h => absurd h (nd j)⟩) (same_orig rfl) (fun _ _ _ _ _ _ h => absurd rfl h.1)
  · rcases hn with e | e <;> simp [Heap.enterH] at e
  · have := (g2 i c hc).2 e
    have hi : i < H.cells.length := (List.getElem?_eq_some_iff.1 hc).1
    omega
  · exact (r6_0 (by simp [Heap.enterH])).2 ⟨rfl, rfl⟩
  · rintro (e | e) <;> simp [Heap.enterH] at e
theorem hand3_doom {H K : Heap} (hp : H.phase = 3) (e1 : K.phase = H.phase) (e2 : K.hand = H.hand + 1) {j : Int} (hj : j ≠ H.hand) (e3 : K.getC j = H.getC j) : Doomed K j ↔ Doomed H j := by
  unfold Doomed
  rw [e1, e2, e3]
  constructor
  · rintro ⟨a, b, c, d⟩; exact ⟨a, b, c, by omega⟩
  · rintro ⟨a, b, c, d⟩; exact ⟨a, b, c, by omega⟩
/-- a cell that is given back -/
theorem free_sound {H : Heap} (h : Sound H) (hp : H.phase = 3) (hh : H.hand < H.cells.length) (hc0 : (H.getC H.hand).state = 1 ∧ (H.getC H.hand).color = 0) :
    Sound { H with used := H.used - (1 + (H.getC H.hand).pairs.length), cells := H.cells.set H.hand.toNat Cell.zero, hand := H.hand + 1 } := by
  have h0 := h.r1.hand
  have hc := getL_some (cs := H.cells) h0.1 hh
  rw [← getC_L] at hc
  have hlt := (List.getElem?_eq_some_iff.1 hc).1
  generalize hK : ({ H with used := H.used - (1 + (H.getC H.hand).pairs.length), cells := H.cells.set H.hand.toNat Cell.zero, hand := H.hand + 1 } : Heap) = K
  have e1 : K.cells = H.cells.set H.hand.toNat Cell.zero := by rw [← hK]
  have e2 : K.phase = H.phase := by rw [← hK]
  have e3 : K.hand = H.hand + 1 := by rw [← hK]
  have e4 : K.regs = H.regs := by rw [← hK]
  have e5 : K.gray = H.gray := by rw [← hK]
  have e6 : K.sub = H.sub := by rw [← hK]
  have e7 : K.born = H.born := by rw [← hK]
  have e8 : K.used = H.used - (1 + (H.getC H.hand).pairs.length) := by rw [← hK]
  have e9 : K.room = H.room := by rw [← hK]
  have gC : ∀ j : Int, K.getC j = if j.toNat = H.hand.toNat then Cell.zero else H.getC j := fun j => by
    rw [getC_L, getC_L, e1]; exact getL_set hlt
  have hl : K.cells.length = H.cells.length := by rw [e1]; simp
  have hdm : Doomed H H.hand := ⟨hp, hc0.1, hc0.2, by omega⟩
  have fm : ∀ w, Formed H w → Formed K w := fun w hw => formed_len hl hw
  have ld : ∀ w, Formed H w → (w.kind = 2 → (H.getC w.at_).state = 1 ∧ ¬ Doomed H w.at_) → ∀ m, LeadsWell K w m := fun w hf hw m hk => by
    obtain ⟨a, b⟩ := hw hk
    have hne : w.at_ ≠ H.hand := fun e => b (by rw [e]; exact hdm)
    have hat := hf.at hk
    have eC : K.getC w.at_ = H.getC w.at_ := by rw [gC, if_neg (by omega)]
    exact .inl ⟨by rw [eC]; exact a, fun hd => b ((hand3_doom hp e2 e3 hne eC).1 hd)⟩
  have cell : ∀ (j : Nat) d, K.cells[j]? = some d → (j = H.hand.toNat ∧ d = Cell.zero) ∨ ((j : Int) ≠ H.hand ∧ H.cells[j]? = some d ∧ K.getC j = H.getC j) := fun j d hd => by
    rw [e1] at hd
    rcases set_gt hd with ⟨a, b, _⟩ | ⟨a, b⟩
    · exact .inl ⟨a, b⟩
    · refine .inr ⟨by omega, b, ?_⟩
      rw [gC, if_neg (by omega)]
  obtain ⟨g1, g2⟩ := h.r5.else_ (not_mark (by omega))
  refine ⟨?_, ⟨fun j d hd => ?_, fun i j c d hc' hd hij h1 h2 => ?_, fun i j c d hc' hd hij h1 h2 => ?_⟩, ?_, ⟨fun w hw => ?_, fun i c hc' hd hr => ?_, fun i c hc' k p hk => ?_⟩, ⟨fun hn => ?_, fun _ => ⟨by rw [e5]; exact g1, fun i c hc' => ?_⟩⟩, ?_, R7.nil (not_mark (by omega)), R8.nil (by omega)⟩
  · have := h.r1
    subst hK
    exact { h.r1 with cells := by rw [hl]; exact h.r1.cells, gray := by rw [hl]; exact h.r1.gray, hand := by rw [hl]; show 0 ≤ H.hand + 1 ∧ H.hand + 1 ≤ (H.cells.length : Int); omega }
  · rcases cell j d hd with ⟨_, rfl⟩ | ⟨_, hd, _⟩
    · exact .inl ⟨rfl, ⟨rfl, rfl, rfl, rfl, rfl, rfl⟩, rfl⟩
    · rcases h.r2.each j d hd with h1 | h1 | h1
      · exact .inl h1
      · have := h1.2.2.1; omega
      · exact .inr (.inr (by unfold UsedOk at *; rw [e7]; exact h1))
  · rcases cell i c hc' with ⟨_, rfl⟩ | ⟨_, a, _⟩
    · simp [Cell.zero] at h1
    rcases cell j d hd with ⟨_, rfl⟩ | ⟨_, b, _⟩
    · simp [Cell.zero] at h2
    exact h.r2.born i j c d a b hij h1 h2
  · rcases cell i c hc' with ⟨_, rfl⟩ | ⟨_, a, _⟩
    · simp [Cell.zero] at h1
    rcases cell j d hd with ⟨_, rfl⟩ | ⟨_, b, _⟩
    · simp [Cell.zero] at h2
    exact h.r2.to i j c d a b hij h1 h2
  · have h3 := h.r3
    unfold R3 at h3 ⊢
    rw [e1, e8, e9, units_set hc]
    have u1 : (H.getC H.hand).units = 1 + (H.getC H.hand).pairs.length := by unfold Cell.units; rw [if_pos hc0.1]
    have u2 : Cell.zero.units = 0 := rfl
    omega
  · rw [e4] at hw
    obtain ⟨a, b⟩ := reg_used h.r4 hw
    exact ⟨fm w a, ld w a b _⟩
  · rcases cell i c hc' with ⟨rfl, rfl⟩ | ⟨a, b, e⟩
    · have := hr.1; simp [Cell.zero] at this
    · exact h.r4.roots i c b ((hand3_doom hp e2 e3 a e).1 hd) hr
  · rcases cell i c hc' with ⟨rfl, rfl⟩ | ⟨a, b, e⟩
    · simp [Cell.zero] at hk
    · obtain ⟨f1, f2, _⟩ := h.r4.pairs i c b k p hk
      refine ⟨fm _ f1, fm _ f2, fun hn => ?_⟩
      have hn' : ¬ Doomed H i := fun hd => hn ((hand3_doom hp e2 e3 a e).2 hd)
      have m := fun w hw => (pair_used h.r4 b hk (not_mend (by omega) _ _) hn' (w := w) hw).2
      exact ⟨ld _ f1 (m _ (.inl rfl)) _, ld _ f2 (m _ (.inr rfl)) _⟩
  · exact absurd hn (not_mark (by omega))
  · rcases cell i c hc' with ⟨_, rfl⟩ | ⟨a, b, _⟩
    · exact ⟨by simp [Cell.zero], by simp [Cell.zero]⟩
    · refine ⟨(g2 i c b).1, fun e => ?_⟩
      have := (g2 i c b).2 e
      omega
  · exact (r6_e (by omega)).2 (by rw [e6]; exact sub0 h.r6 (by omega))
/-- a cell that stays, made white -/
theorem white_sound {H : Heap} (h : Sound H) (hp : H.phase = 3) (hh : H.hand < H.cells.length) (hc0 : ¬ ((H.getC H.hand).state = 1 ∧ (H.getC H.hand).color = 0)) :
    Sound { H with cells := H.cells.set H.hand.toNat ((H.getC H.hand).col 0), hand := H.hand + 1 } := by
  have h0 := h.r1.hand
  have hc := getL_some (cs := H.cells) h0.1 hh
  rw [← getC_L] at hc
  have hlt := (List.getElem?_eq_some_iff.1 hc).1
  have hs0 := sub0 h.r6 (by omega)
  generalize hK : ({ H with cells := H.cells.set H.hand.toNat ((H.getC H.hand).col 0), hand := H.hand + 1 } : Heap) = K
  have e1 : K.cells = H.cells.set H.hand.toNat ((H.getC H.hand).col 0) := by rw [← hK]
  have e2 : K.phase = H.phase := by rw [← hK]
  have e3 : K.hand = H.hand + 1 := by rw [← hK]
  have e4 : K.regs = H.regs := by rw [← hK]
  have e5 : K.gray = H.gray := by rw [← hK]
  have e6 : K.sub = H.sub := by rw [← hK]
  have e7 : K.born = H.born := by rw [← hK]
  have e8 : K.used = H.used := by rw [← hK]
  have e9 : K.room = H.room := by rw [← hK]
  have hl : K.cells.length = H.cells.length := by rw [e1]; simp
  have hcs := fun j => col_state hc e1 j
  have gC : ∀ j : Int, K.getC j = if j.toNat = H.hand.toNat then (H.getC H.hand).col 0 else H.getC j := fun j => by
    rw [getC_L, getC_L, e1]; exact getL_set hlt
  have hdd : ∀ j, Doomed K j ↔ Doomed H j := fun j => by
    by_cases e : j = H.hand
    · subst e
      refine ⟨fun hd => ?_, fun hd => ?_⟩
      · have := hd.2.2.2; omega
      · exact absurd ⟨hd.2.1, hd.2.2.1⟩ hc0
    · by_cases en : j < 0
      · exact ⟨fun hd => by have := hd.2.2.2; omega, fun hd => by have := hd.2.2.2; omega⟩
      · exact hand3_doom hp e2 e3 e (by rw [gC, if_neg (by omega)])
  obtain ⟨g1, g2⟩ := h.r5.else_ (not_mark (by omega))
  have hsame : (H.getC H.hand).state ≠ 1 → K.cells = H.cells := fun hne => by
    have hb := (h.r2.bare hc hne).2.2.2.2.1
    have : (H.getC H.hand).col 0 = H.getC H.hand := by unfold Cell.col; rw [← hb]
    rw [e1, this]
    apply List.ext_getElem?
    intro j
    rw [List.getElem?_set]
    split
    · rename_i e; subst e; exact hc.symm
    · rfl
  refine ⟨?_, ?_, ?_, r4_frame h.r4 hl e4 (fun j => (hcs j).1) hdd (col_orig hc e1) (fun _ _ _ _ _ _ _ => not_mend (by omega) _ _), ⟨fun hn => absurd hn (not_mark (by omega)), fun _ => ⟨by rw [e5]; exact g1, fun i c hc' => ?_⟩⟩, ?_, R7.nil (not_mark (by omega)), R8.nil (by omega)⟩
  · have := h.r1
    subst hK
    exact { h.r1 with cells := by rw [hl]; exact h.r1.cells, gray := by rw [hl]; exact h.r1.gray, hand := by rw [hl]; show 0 ≤ H.hand + 1 ∧ H.hand + 1 ≤ (H.cells.length : Int); omega }
  · by_cases hu : (H.getC H.hand).state = 1
    · exact col_r2 h.r2 hc hu (by omega) e1 e7 e2
    · have hcc := hsame hu
      refine ⟨fun j d hd => ?_, by rw [hcc]; exact h.r2.born, by rw [hcc]; exact h.r2.to⟩
      rw [hcc] at hd
      rcases h.r2.each j d hd with h1 | h1 | h1
      · exact .inl h1
      · have := h1.2.2.1; omega
      · exact .inr (.inr (by unfold UsedOk at *; rw [e7]; exact h1))
  · exact col_r3 h.r3 hc e1 e8 e9
  · rw [e1] at hc'
    obtain ⟨d0, hd0, ⟨rfl, rfl, rfl⟩ | ⟨hne, rfl⟩⟩ := orig hc hc'
    · exact ⟨by simp [Cell.col], by simp [Cell.col]⟩
    · refine ⟨(g2 i c hd0).1, fun e => ?_⟩
      have := (g2 i c hd0).2 e
      omega
  · exact (r6_e (by omega)).2 (by rw [e6]; exact hs0)
theorem sweepU_sound {H : Heap} (h : Sound H) (hp : H.phase = 3) : Sound H.sweepU := by
  unfold Heap.sweepU
  have h0 := h.r1.hand
  by_cases hh : H.hand = H.cells.length
  · rw [if_pos hh]; exact enter4_sound h hp hh
  · rw [if_neg hh]
    by_cases hc : (H.getC H.hand).state = 1 ∧ (H.getC H.hand).color = 0
    · rw [if_pos hc]; exact free_sound h hp (by omega) hc
    · rw [if_neg hc]; exact white_sound h hp (by omega) hc
noncomputable def frG (H : Heap) : Nat → Int
  | 0 => H.cells.length
  | k + 1 => if (H.getC k).state = 0 then min (frG H k) k else frG H k
noncomputable def luG (H : Heap) : Nat → Int
  | 0 => -1
  | k + 1 => if (H.getC k).state = 1 then (k : Int) else luG H k
theorem frG_ok (H : Heap) : ∀ k : Nat, 0 ≤ frG H k ∧ frG H k ≤ H.cells.length ∧ (frG H k < H.cells.length → frG H k < k ∧ (H.getC (frG H k)).state = 0) ∧ ∀ j : Nat, j < k → (j : Int) < frG H k → (H.getC j).state ≠ 0
  | 0 => by
    simp only [frG]
    exact ⟨by omega, by omega, fun h => by omega, fun j h => by omega⟩
  | k + 1 => by
    obtain ⟨a, b, c, d⟩ := frG_ok H k
    simp only [frG]
    split
    · rename_i hs
      by_cases e : frG H k ≤ k
      · rw [Int.min_eq_left e]
        refine ⟨a, b, fun h => ⟨by have := (c h).1; omega, (c h).2⟩, fun j hj hl => d j (by omega) hl⟩
      · rw [Int.min_eq_right (by omega)]
        refine ⟨by omega, by omega, fun h => ⟨by omega, hs⟩, fun j hj hl => d j (by omega) (by omega)⟩
    · rename_i hs
      refine ⟨a, b, fun h => ⟨by have := (c h).1; omega, (c h).2⟩, fun j hj hl => ?_⟩
      by_cases e : j = k
      · subst e; exact hs
      · exact d j (by omega) hl
theorem luG_ok (H : Heap) : ∀ k : Nat, -1 ≤ luG H k ∧ luG H k < k ∧ (0 ≤ luG H k → (H.getC (luG H k)).state = 1) ∧ ∀ j : Nat, j < k → luG H k < j → (H.getC j).state ≠ 1
  | 0 => by
    simp only [luG]
    exact ⟨by omega, by omega, fun h => by omega, fun j h => by omega⟩
  | k + 1 => by
    obtain ⟨a, b, c, d⟩ := luG_ok H k
    simp only [luG]
    split
    · rename_i hs
      exact ⟨by omega, by omega, fun _ => hs, fun j hj hl => by omega⟩
    · rename_i hs
      refine ⟨a, by omega, c, fun j hj hl => ?_⟩
      by_cases e : j = k
      · subst e; exact hs
      · exact d j (by omega) hl
def Cell.gone (f : Int) : Cell := ⟨2, 0, 0, 0, 0, 0, f, []⟩
def Word.redir (w : Word) (u f : Int) : Word := if w.kind = 2 ∧ w.at_ = u then { w with at_ := f } else w
def Heap.moved (H : Heap) (f u : Int) : Heap := { H with cells := (H.cells.set f.toNat (H.getC u)).set u.toNat (Cell.gone f), regs := H.regs.map fun w => w.redir u f }
noncomputable def Heap.moveU (H : Heap) : Heap :=
  if luG H H.cells.length ≤ frG H H.cells.length then H.enterH 5 else H.moved (frG H H.cells.length) (luG H H.cells.length)
theorem enter5_sound {H : Heap} (h : Sound H) (hp : H.phase = 4) : Sound (H.enterH 5) := by
  obtain ⟨g1, g2⟩ := h.r5.else_ (not_mark (by omega))
  refine ⟨{ h.r1 with phase := by simp [Heap.enterH], hand := by simp [Heap.enterH], sub := by simp [Heap.enterH] }, ⟨fun j d hd => ?_, h.r2.born, h.r2.to⟩, h.r3, ?_, ⟨fun hn => ?_, fun _ => ⟨g1, fun i c hc => ⟨(g2 i c hc).1, fun e => by have := (g2 i c hc).2 e; omega⟩⟩⟩, ?_, R7.nil ?_, R8.nil (by simp [Heap.enterH])⟩
  · rcases h.r2.each j d hd with h1 | h1 | h1
    · exact .inl h1
    · obtain ⟨a1, a2, a3, a4, a5, a6⟩ := h1
      exact .inr (.inl ⟨a1, a2, by simp [Heap.enterH], a4, a5, fun e => by simp [Heap.enterH] at e⟩)
    · exact .inr (.inr h1)
  · exact r4_frame h.r4 rfl rfl (fun _ => rfl) (fun j => ⟨fun h => by have := h.1; simp [Heap.enterH] at this, fun h => by have := h.1; omega⟩) (same_orig rfl) (fun j k _ _ _ _ hm => by
      have h1 : (j : Int) < 0 ∨ (j : Int) = 0 ∧ (k : Int) < 0 := hm.2 rfl
      omega)
  · rcases hn with e | e <;> simp [Heap.enterH] at e
  · refine (r6_5 rfl).2 ?_
    split
    · show (0 : Int) ≤ _; omega
    · rfl
  · rintro (e | e) <;> simp [Heap.enterH] at e
theorem moved_sound {H : Heap} {f u : Int} (h : Sound H) (hp : H.phase = 4) (hf : 0 ≤ f ∧ f < u) (hu : u < H.cells.length) (sf : (H.getC f).state = 0) (su : (H.getC u).state = 1) (lo : ∀ j : Nat, (j : Int) < f → (H.getC j).state ≠ 0) : Sound (H.moved f u) := by
  have hcu := getL_some (cs := H.cells) (j := u) (by omega) hu
  have hcf := getL_some (cs := H.cells) (j := f) (by omega) (by omega)
  rw [← getC_L] at hcu hcf
  have hltu := (List.getElem?_eq_some_iff.1 hcu).1
  have hltf := (List.getElem?_eq_some_iff.1 hcf).1
  have hne : u.toNat ≠ f.toNat := by omega
  generalize hK : H.moved f u = K
  have e1 : K.cells = (H.cells.set f.toNat (H.getC u)).set u.toNat (Cell.gone f) := by rw [← hK]; rfl
  have e2 : K.phase = H.phase := by rw [← hK]; rfl
  have e3 : K.hand = H.hand := by rw [← hK]; rfl
  have e4 : K.regs = H.regs.map fun w => w.redir u f := by rw [← hK]; rfl
  have e5 : K.gray = H.gray := by rw [← hK]; rfl
  have e6 : K.sub = H.sub := by rw [← hK]; rfl
  have e7 : K.born = H.born := by rw [← hK]; rfl
  have e8 : K.used = H.used := by rw [← hK]; rfl
  have e9 : K.room = H.room := by rw [← hK]; rfl
  have hl : K.cells.length = H.cells.length := by rw [e1]; simp
  have gC : ∀ j : Int, K.getC j = if j.toNat = u.toNat then Cell.gone f else if j.toNat = f.toNat then H.getC u else H.getC j := fun j => by
    rw [getC_L, getC_L, e1, getL_set (by simp; omega), getL_set hltf]; rfl
  have cell : ∀ (j : Nat) d, K.cells[j]? = some d → (j = u.toNat ∧ d = Cell.gone f) ∨ (j = f.toNat ∧ d = H.getC u) ∨ (j ≠ u.toNat ∧ j ≠ f.toNat ∧ H.cells[j]? = some d) := fun j d hd => by
    rw [e1] at hd
    rcases set_gt hd with ⟨a, b, _⟩ | ⟨a, b⟩
    · exact .inl ⟨a, b⟩
    · rcases set_gt b with ⟨c, d, _⟩ | ⟨c, d⟩
      · exact .inr (.inl ⟨c, d⟩)
      · exact .inr (.inr ⟨a, c, d⟩)
  have fm : ∀ w, Formed H w → Formed K w := fun w hw => formed_len hl hw
  have nd : ∀ j, ¬ Doomed K j := fun j => not_doom (by omega) j
  have ndH : ∀ j, ¬ Doomed H j := fun j => not_doom (by omega) j
  have one : ∀ (j : Nat) d, K.cells[j]? = some d → d.state = 1 → ∃ j0 : Nat, H.cells[j0]? = some d ∧ j0 = (if j = f.toNat then u.toNat else j) ∧ j ≠ u.toNat := fun j d hd h1 => by
    rcases cell j d hd with ⟨rfl, rfl⟩ | ⟨rfl, rfl⟩ | ⟨a, b, c⟩
    · simp [Cell.gone] at h1
    · exact ⟨u.toNat, hcu, by rw [if_pos rfl], fun e => hne e.symm⟩
    · exact ⟨j, c, by rw [if_neg b], a⟩
  obtain ⟨g1, g2⟩ := h.r5.else_ (not_mark (by omega))
  refine ⟨?_, ⟨fun j d hd => ?_, fun i j c d hc hd hij h1 h2 => ?_, fun i j c d hc hd hij h1 h2 => ?_⟩, ?_, ⟨fun w hw => ?_, fun i c hc hd => absurd hd (nd i), fun i c hc k p hk => ?_⟩, ⟨fun hn => absurd hn (not_mark (by omega)), fun _ => ⟨by rw [e5]; exact g1, fun i c hc => ?_⟩⟩, ?_, R7.nil (not_mark (by omega)), R8.nil (by omega)⟩
  · have := h.r1
    subst hK
    exact { h.r1 with regs := by rw [e4, List.length_map]; exact h.r1.regs, cells := by rw [hl]; exact h.r1.cells, gray := by rw [hl]; exact h.r1.gray, hand := by rw [hl]; exact h.r1.hand }
  · rcases cell j d hd with ⟨rfl, rfl⟩ | ⟨rfl, rfl⟩ | ⟨a, b, c⟩
    · refine .inr (.inl ⟨rfl, ⟨rfl, rfl, rfl, rfl, rfl, rfl⟩, by omega, ⟨hf.1, by show f < _; omega⟩, ?_, fun _ k h0 h1 => ?_⟩)
      · show (K.getC f).state = 1
        rw [gC, if_neg (by omega), if_pos rfl]; exact su
      · have h1 : k < f := h1
        rw [gC, if_neg (by omega), if_neg (by omega)]
        have := lo k.toNat (by omega)
        rw [show ((k.toNat : Nat) : Int) = k by omega] at this
        exact this
    · obtain ⟨a1, a2, a3, a4, a5, a6⟩ := h.r2.used hcu su
      exact .inr (.inr ⟨a1, a2, a3, a4, by rw [e7]; exact a5, a6⟩)
    · rcases h.r2.each j d c with h1 | h1 | h1
      · exact .inl h1
      · obtain ⟨a1, a2, a3, a4, a5, a6⟩ := h1
        have k1 : d.to.toNat ≠ f.toNat := fun e => by
          have : d.to = f := by omega
          rw [this, sf] at a5; omega
        have k2 : d.to.toNat ≠ u.toNat := fun e => by
          have e' : d.to = u := by omega
          exact a6 hp f hf.1 (by omega) sf
        refine .inr (.inl ⟨a1, a2, by omega, a4, ?_, fun _ k h0 hk => ?_⟩)
        · rw [gC, if_neg k2, if_neg k1]; exact a5
        · rw [gC]
          by_cases x1 : k.toNat = u.toNat
          · rw [if_pos x1]; simp [Cell.gone]
          · rw [if_neg x1]
            by_cases x2 : k.toNat = f.toNat
            · rw [if_pos x2]; omega
            · rw [if_neg x2]; exact a6 hp k h0 hk
      · exact .inr (.inr (by unfold UsedOk at *; rw [e7]; exact h1))
  · obtain ⟨i0, b1, b2, b3⟩ := one i c hc h1
    obtain ⟨j0, d1, d2, d3⟩ := one j d hd h2
    have hne0 : i0 ≠ j0 := by
      rw [b2, d2]
      by_cases x : i = f.toNat
      · rw [if_pos x]
        by_cases y : j = f.toNat
        · omega
        · rw [if_neg y]; exact fun e => d3 e.symm
      · rw [if_neg x]
        by_cases y : j = f.toNat
        · rw [if_pos y]; exact b3
        · rw [if_neg y]; omega
    rcases Nat.lt_or_gt_of_ne hne0 with hl' | hl'
    · exact h.r2.born i0 j0 c d b1 d1 hl' h1 h2
    · exact fun e => h.r2.born j0 i0 d c d1 b1 hl' h2 h1 e.symm
  · have two : ∀ (j : Nat) d, K.cells[j]? = some d → d.state = 2 → (j = u.toNat ∧ d.to = f) ∨ (H.cells[j]? = some d ∧ d.to ≠ f) := fun j d hd h1 => by
      rcases cell j d hd with ⟨rfl, rfl⟩ | ⟨rfl, rfl⟩ | ⟨a, b, c⟩
      · exact .inl ⟨rfl, rfl⟩
      · omega
      · refine .inr ⟨c, fun e => ?_⟩
        rcases h.r2.each j d c with h1 | h1 | h1
        · have := h1.1; omega
        · have := h1.2.2.2.2.1; rw [e, sf] at this; omega
        · have := h1.1; omega
    rcases two i c hc h1 with ⟨a1, a2⟩ | ⟨a1, a2⟩
    · rcases two j d hd h2 with ⟨b1, b2⟩ | ⟨b1, b2⟩
      · omega
      · rw [a2]; exact fun e => b2 e.symm
    · rcases two j d hd h2 with ⟨b1, b2⟩ | ⟨b1, b2⟩
      · rw [b2]; exact a2
      · exact h.r2.to i j c d a1 b1 hij h1 h2
  · have h3 := h.r3
    unfold R3 at h3 ⊢
    have hcu2 : (H.cells.set f.toNat (H.getC u))[u.toNat]? = some (H.getC u) := by rw [List.getElem?_set, if_neg (fun e => hne e.symm)]; exact hcu
    rw [e1, e8, e9, units_set hcu2, units_set hcf]
    have u1 : (Cell.gone f).units = 0 := rfl
    have u2 : (H.getC f).units = 0 := by unfold Cell.units; rw [if_neg (by omega)]
    omega
  · rw [e4] at hw
    obtain ⟨v, hv, rfl⟩ := List.mem_map.1 hw
    obtain ⟨a, b⟩ := reg_used h.r4 hv
    unfold Word.redir
    split
    · rename_i e
      refine ⟨fm _ ?_, fun hk => .inl ⟨?_, nd _⟩⟩
      · rcases a with x | x | x
        · omega
        · omega
        · exact .inr (.inr ⟨x.1, x.2.1, hf.1, by show f < (H.cells.length : Int); omega⟩)
      · show (K.getC f).state = 1
        rw [gC, if_neg (by omega), if_pos rfl]; exact su
    · rename_i e
      refine ⟨fm _ a, fun hk => .inl ⟨?_, nd _⟩⟩
      have hat := a.at hk
      have b1 := (b hk).1
      have x1 : v.at_ ≠ u := fun e' => e ⟨hk, e'⟩
      have x2 : v.at_ ≠ f := fun e' => by rw [e', sf] at b1; omega
      rw [gC, if_neg (by omega), if_neg (by omega)]; exact b1
  · have ld : ∀ w, Formed H w → LeadsWell H w True → LeadsWell K w (¬ Mended K i k) := fun w hfw hw hk => by
      have hat := hfw.at hk
      have hm : ¬ Mended K i k := fun hm => hm.1 (by omega)
      by_cases x1 : w.at_ = u
      · right; rw [gC, if_pos (by omega)]; exact ⟨rfl, hm⟩
      · rcases hw hk with ⟨y, _⟩ | ⟨y, _⟩
        · left
          have x2 : w.at_ ≠ f := fun e' => by rw [e', sf] at y; omega
          rw [gC, if_neg (by omega), if_neg (by omega)]; exact ⟨y, nd _⟩
        · right
          have x2 : w.at_ ≠ f := fun e' => by rw [e', sf] at y; omega
          rw [gC, if_neg (by omega), if_neg (by omega)]; exact ⟨y, hm⟩
    have fin : ∀ (j : Nat) d, H.cells[j]? = some d → d.pairs[k]? = some p → Formed K p.key ∧ Formed K p.val ∧ (¬ Doomed K i → LeadsWell K p.key (¬ Mended K i k) ∧ LeadsWell K p.val (¬ Mended K i k)) := fun j d hd hk => by
      obtain ⟨a, b, g⟩ := h.r4.pairs j d hd k p hk
      obtain ⟨x1, x2⟩ := g (ndH j)
      have t : ∀ w, LeadsWell H w (¬ Mended H j k) → LeadsWell H w True := fun w hw hk => (hw hk).imp id (fun x => ⟨x.1, trivial⟩)
      exact ⟨fm _ a, fm _ b, fun _ => ⟨ld _ a (t _ x1), ld _ b (t _ x2)⟩⟩
    rcases cell i c hc with ⟨rfl, rfl⟩ | ⟨rfl, rfl⟩ | ⟨_, _, c'⟩
    · simp [Cell.gone] at hk
    · exact fin _ _ hcu hk
    · exact fin _ _ c' hk
  · rcases cell i c hc with ⟨rfl, rfl⟩ | ⟨rfl, rfl⟩ | ⟨_, _, c'⟩
    · exact ⟨by simp [Cell.gone], by simp [Cell.gone]⟩
    · exact ⟨(g2 _ _ hcu).1, fun e => by have := (g2 _ _ hcu).2 e; omega⟩
    · exact ⟨(g2 _ _ c').1, fun e => by have := (g2 _ _ c').2 e; omega⟩
  · exact (r6_0 (by omega)).2 (by rw [e3, e6]; exact (r6_0 (by omega)).1 h.r6)
theorem moveU_sound {H : Heap} (h : Sound H) (hp : H.phase = 4) : Sound H.moveU := by
  unfold Heap.moveU
  obtain ⟨a1, a2, a3, a4⟩ := frG_ok H H.cells.length
  obtain ⟨b1, b2, b3, b4⟩ := luG_ok H H.cells.length
  split
  · exact enter5_sound h hp
  · exact moved_sound h hp ⟨a1, by omega⟩ b2 (a3 (by omega)).2 (b3 (by omega)) (fun j hj => a4 j (by omega) hj)
end Go.Proofs.Ytcmllambknfleaa.E
set_option linter.unusedVariables false
set_option linter.unusedSimpArgs false
namespace Go.Proofs.Ytcmllambknfleaa.E
open Go
open Classical
noncomputable def Heap.mendU (H : Heap) : Heap :=
  if H.hand = H.cells.length then H.enterH 6
  else match (H.getC H.hand).pairs[H.sub.toNat]? with
    | some p => { H with cells := H.cells.set H.hand.toNat { H.getC H.hand with pairs := (H.getC H.hand).pairs.set H.sub.toNat ⟨H.lead p.key, H.lead p.val⟩ }, sub := H.sub + 1 }
    | none => { H with hand := H.hand + 1, sub := 0 }
theorem enter6_sound {H : Heap} (h : Sound H) (hp : H.phase = 5) (hh : H.hand = H.cells.length) : Sound (H.enterH 6) := by
  obtain ⟨g1, g2⟩ := h.r5.else_ (not_mark (by omega))
  refine ⟨{ h.r1 with phase := by simp [Heap.enterH], hand := by simp [Heap.enterH], sub := by simp [Heap.enterH] }, ⟨fun j d hd => ?_, h.r2.born, h.r2.to⟩, h.r3, ?_, ⟨fun hn => ?_, fun _ => ⟨g1, fun i c hc => ⟨(g2 i c hc).1, fun e => by have := (g2 i c hc).2 e; omega⟩⟩⟩, ?_, R7.nil ?_, fun _ i c hc hi => ?_⟩
  · rcases h.r2.each j d hd with h1 | h1 | h1
    · exact .inl h1
    · obtain ⟨a1, a2, a3, a4, a5, a6⟩ := h1
      exact .inr (.inl ⟨a1, a2, by simp [Heap.enterH], a4, a5, fun e => by simp [Heap.enterH] at e⟩)
    · exact .inr (.inr h1)
  · exact r4_frame h.r4 rfl rfl (fun _ => rfl) (fun j => ⟨fun h => by have := h.1; simp [Heap.enterH] at this, fun h => by have := h.1; omega⟩) (same_orig rfl) (fun j k d _ hd _ _ => ⟨by omega, fun _ => by
      have := (List.getElem?_eq_some_iff.1 hd).1
      left; omega⟩)
  · rcases hn with e | e <;> simp [Heap.enterH] at e
  · exact (r6_e (by simp [Heap.enterH])).2 rfl
  · rintro (e | e) <;> simp [Heap.enterH] at e
  · have hi' := (List.getElem?_eq_some_iff.1 hc).1
    have : (H.enterH 6).hand = H.cells.length := by simp [Heap.enterH]
    rw [this] at hi
    have : (H.enterH 6).cells = H.cells := rfl
    rw [this] at hi'
    omega
theorem skip_sound {H : Heap} (h : Sound H) (hp : H.phase = 5) (hh : H.hand < H.cells.length) (hs : ((H.getC H.hand).pairs.length : Int) ≤ H.sub) : Sound { H with hand := H.hand + 1, sub := 0 } := by
  obtain ⟨g1, g2⟩ := h.r5.else_ (not_mark (by omega))
  have h0 := h.r1.hand
  refine ⟨{ h.r1 with hand := by show 0 ≤ H.hand + 1 ∧ H.hand + 1 ≤ (H.cells.length : Int); omega, sub := by simp }, ⟨fun j d hd => h.r2.each j d hd, h.r2.born, h.r2.to⟩, h.r3, ?_, ⟨fun hn => absurd hn (not_mark (by simp only; omega)), fun _ => ⟨g1, fun i c hc => ⟨(g2 i c hc).1, fun e => by have := (g2 i c hc).2 e; omega⟩⟩⟩, ?_, R7.nil (not_mark (by simp only; omega)), R8.nil (by simp only; omega)⟩
  · exact r4_frame h.r4 rfl rfl (fun _ => rfl) (fun j => ⟨fun h => by have := h.1; simp only at this; omega, fun h => by have := h.1; omega⟩) (same_orig rfl) (fun j k d p hd hk hm => ⟨by omega, fun _ => by
      have h1 : (j : Int) < H.hand + 1 ∨ (j : Int) = H.hand + 1 ∧ (k : Int) < 0 := hm.2 hp
      have hkl := (List.getElem?_eq_some_iff.1 hk).1
      by_cases e : (j : Int) = H.hand
      · right
        rw [← e, getC_nat hd] at hs
        exact ⟨e, by omega⟩
      · left; omega⟩)
  · refine (r6_5 (H := { H with hand := H.hand + 1, sub := 0 }) hp).2 ?_
    split
    · show (0 : Int) ≤ _; omega
    · rfl
theorem lead_fm {H : Heap} (h2 : R2 H) {w : Word} (hf : Formed H w) {m : Prop} (hl : LeadsWell H w m) (hd : ∀ j, ¬ Doomed H j) : Formed H (H.lead w) ∧ ((H.lead w).kind = 2 → (H.getC (H.lead w).at_).state = 1) := by
  by_cases hk : w.kind = 2
  · have hat := hf.at hk
    have hc := getL_some (cs := H.cells) hat.1 hat.2
    rw [← getC_L] at hc
    unfold Heap.lead
    split
    · rename_i e
      rcases h2.each _ _ hc with x | x | x
      · have := x.1; omega
      · obtain ⟨a1, a2, a3, a4, a5, a6⟩ := x
        refine ⟨.inr (.inr ⟨rfl, rfl, a4.1, ?_⟩), fun _ => a5⟩
        have := a4.2
        show (H.getC w.at_).to < (H.cells.length : Int)
        omega
      · have := x.1; omega
    · rename_i e
      refine ⟨hf, fun _ => ?_⟩
      rcases hl hk with x | x
      · exact x.1
      · exact absurd ⟨hk, x.1⟩ e
  · unfold Heap.lead
    rw [if_neg (fun h => hk h.1)]
    exact ⟨hf, fun h => absurd h hk⟩
theorem mended_sound {H : Heap} {p : Pair} (h : Sound H) (hp : H.phase = 5) (hh : H.hand < H.cells.length) (hs : (H.getC H.hand).pairs[H.sub.toNat]? = some p) :
    Sound { H with cells := H.cells.set H.hand.toNat { H.getC H.hand with pairs := (H.getC H.hand).pairs.set H.sub.toNat ⟨H.lead p.key, H.lead p.val⟩ }, sub := H.sub + 1 } := by
  have h0 := h.r1.hand
  have hs0 := h.r1.sub
  have hc := getL_some (cs := H.cells) h0.1 hh
  rw [← getC_L] at hc
  have hlt := (List.getElem?_eq_some_iff.1 hc).1
  have hsl := (List.getElem?_eq_some_iff.1 hs).1
  have hu : (H.getC H.hand).state = 1 := by
    rcases Decidable.em ((H.getC H.hand).state = 1) with e | e
    · exact e
    · have := (h.r2.bare hc e).2.2.2.2.2; rw [this] at hs; simp at hs
  have huo := h.r2.used hc hu
  generalize hN : ({ H.getC H.hand with pairs := (H.getC H.hand).pairs.set H.sub.toNat ⟨H.lead p.key, H.lead p.val⟩ } : Cell) = N
  have n1 : N.state = (H.getC H.hand).state ∧ N.to = (H.getC H.hand).to ∧ N.born = (H.getC H.hand).born ∧ N.color = (H.getC H.hand).color ∧ N.last = (H.getC H.hand).last := by rw [← hN]; exact ⟨rfl, rfl, rfl, rfl, rfl⟩
  have n2 : N.pairs = (H.getC H.hand).pairs.set H.sub.toNat ⟨H.lead p.key, H.lead p.val⟩ := by rw [← hN]
  have n3 : N.pairs.length = (H.getC H.hand).pairs.length := by rw [n2]; simp
  have n4 : UsedOk H N := by rw [← hN]; unfold UsedOk at *; simpa using huo
  generalize hK : ({ H with cells := H.cells.set H.hand.toNat N, sub := H.sub + 1 } : Heap) = K
  have e1 : K.cells = H.cells.set H.hand.toNat N := by rw [← hK]
  have e2 : K.phase = H.phase := by rw [← hK]
  have e3 : K.hand = H.hand := by rw [← hK]
  have e4 : K.regs = H.regs := by rw [← hK]
  have e5 : K.gray = H.gray := by rw [← hK]
  have e6 : K.sub = H.sub + 1 := by rw [← hK]
  have e7 : K.born = H.born := by rw [← hK]
  have e8 : K.used = H.used := by rw [← hK]
  have e9 : K.room = H.room := by rw [← hK]
  have hl : K.cells.length = H.cells.length := by rw [e1]; simp
  have gC : ∀ j : Int, K.getC j = if j.toNat = H.hand.toNat then N else H.getC j := fun j => by
    rw [getC_L, getC_L, e1]; exact getL_set hlt
  have gs : ∀ j : Int, (K.getC j).state = (H.getC j).state := fun j => by
    rw [gC]
    split
    · rename_i e
      have : H.getC j = H.getC H.hand := by rw [getC_L, getL_at hc e]
      rw [this]; exact n1.1
    · rfl
  have nd : ∀ j, ¬ Doomed K j := fun j => not_doom (by omega) j
  have ndH : ∀ j, ¬ Doomed H j := fun j => not_doom (by omega) j
  have fm : ∀ w, Formed H w → Formed K w := fun w hw => formed_len hl hw
  have cell : ∀ (j : Nat) d, K.cells[j]? = some d → ∃ d0, H.cells[j]? = some d0 ∧ (j = H.hand.toNat ∧ d0 = H.getC H.hand ∧ d = N ∨ j ≠ H.hand.toNat ∧ d = d0) := fun j d hd => by
    rw [e1] at hd; exact orig hc hd
  have same : ∀ (j : Nat) d, K.cells[j]? = some d → ∃ d0, H.cells[j]? = some d0 ∧ d.born = d0.born ∧ d.state = d0.state ∧ d.to = d0.to ∧ d.color = d0.color := fun j d hd => by
    obtain ⟨d0, hd0, ⟨_, rfl, rfl⟩ | ⟨_, rfl⟩⟩ := cell j d hd
    · exact ⟨_, hd0, n1.2.2.1, n1.1, n1.2.1, n1.2.2.2.1⟩
    · exact ⟨_, hd0, rfl, rfl, rfl, rfl⟩
  obtain ⟨g1, g2⟩ := h.r5.else_ (not_mark (by omega))
  refine ⟨?_, ⟨fun j d hd => ?_, fun i j c d hc' hd hij h1 h2 => ?_, fun i j c d hc' hd hij h1 h2 => ?_⟩, ?_, ⟨fun w hw => ?_, fun i c hc' hd => absurd hd (nd i), fun i c hc' k q hk => ?_⟩, ⟨fun hn => absurd hn (not_mark (by omega)), fun _ => ⟨by rw [e5]; exact g1, fun i c hc' => ?_⟩⟩, ?_, R7.nil (not_mark (by omega)), R8.nil (by omega)⟩
  · have := huo.2.2.2.2.2.2.2
    have hx := h.r1
    subst hK
    exact { h.r1 with cells := by rw [hl]; exact h.r1.cells, gray := by rw [hl]; exact h.r1.gray, hand := by rw [hl]; exact h.r1.hand, sub := by show 0 ≤ H.sub + 1 ∧ H.sub + 1 ≤ 200; omega }
  · obtain ⟨d0, hd0, ⟨rfl, rfl, rfl⟩ | ⟨_, rfl⟩⟩ := cell j d hd
    · exact .inr (.inr (by unfold UsedOk at *; rw [e7]; exact n4))
    · rcases h.r2.each j d hd0 with h1 | h1 | h1
      · exact .inl h1
      · obtain ⟨a1, a2, a3, a4, a5, a6⟩ := h1
        exact .inr (.inl ⟨a1, a2, by omega, a4, by rw [gs]; exact a5, fun e => by omega⟩)
      · exact .inr (.inr (by unfold UsedOk at *; rw [e7]; exact h1))
  · obtain ⟨c0, a1, a2, a3, _⟩ := same i c hc'
    obtain ⟨d0, b1, b2, b3, _⟩ := same j d hd
    rw [a2, b2]; exact h.r2.born i j c0 d0 a1 b1 hij (by omega) (by omega)
  · obtain ⟨c0, a1, a2, a3, a4, _⟩ := same i c hc'
    obtain ⟨d0, b1, b2, b3, b4, _⟩ := same j d hd
    rw [a4, b4]; exact h.r2.to i j c0 d0 a1 b1 hij (by omega) (by omega)
  · have h3 := h.r3
    unfold R3 at h3 ⊢
    rw [e1, e8, e9, units_set hc]
    have : N.units = (H.getC H.hand).units := by unfold Cell.units; rw [n1.1, n3]
    omega
  · rw [e4] at hw
    obtain ⟨a, b⟩ := h.r4.regs w hw
    exact ⟨fm w a, leads_of gs (fun j hd => absurd hd (nd j)) id b⟩
  · obtain ⟨c0, hc0, x⟩ := cell i c hc'
    have old : ∀ q, c0.pairs[k]? = some q → ((i : Int) = H.hand → (k : Int) ≠ H.sub) → Formed K q.key ∧ Formed K q.val ∧ (¬ Doomed K i → LeadsWell K q.key (¬ Mended K i k) ∧ LeadsWell K q.val (¬ Mended K i k)) := fun q hq hne => by
      obtain ⟨a, b, g⟩ := h.r4.pairs i c0 hc0 k q hq
      obtain ⟨y1, y2⟩ := g (ndH i)
      have mm : ¬ Mended H i k → ¬ Mended K i k := fun hm hm' => hm ⟨by omega, fun e => by
        have := hm'.2 (by omega)
        rw [e3, e6] at this
        rcases this with z | z
        · exact .inl z
        · have := hne z.1
          right; omega⟩
      exact ⟨fm _ a, fm _ b, fun _ => ⟨leads_of gs (fun j hd => absurd hd (nd j)) mm y1, leads_of gs (fun j hd => absurd hd (nd j)) mm y2⟩⟩
    rcases x with ⟨rfl, rfl, rfl⟩ | ⟨hne, rfl⟩
    · rw [n2] at hk
      rcases set_gt hk with ⟨rfl, rfl, _⟩ | ⟨a, b⟩
      · obtain ⟨a, b, g⟩ := h.r4.pairs _ _ hc _ p hs
        rw [show ((H.hand.toNat : Nat) : Int) = H.hand by omega] at g
        obtain ⟨y1, y2⟩ := g (ndH _)
        obtain ⟨z1, z2⟩ := lead_fm h.r2 a y1 ndH
        obtain ⟨w1, w2⟩ := lead_fm h.r2 b y2 ndH
        exact ⟨fm _ z1, fm _ w1, fun _ => ⟨fun hk => .inl ⟨by rw [gs]; exact z2 hk, nd _⟩, fun hk => .inl ⟨by rw [gs]; exact w2 hk, nd _⟩⟩⟩
      · exact old q b (fun _ => by omega)
    · exact old q hk (fun e => by omega)
  · obtain ⟨c0, a1, a2, a3, a4, a5⟩ := same i c hc'
    have := g2 i c0 a1
    rw [a5]
    exact ⟨this.1, fun e => by have := this.2 e; omega⟩
  · refine (r6_5 (by omega)).2 ?_
    have : (K.getC H.hand) = N := by rw [gC, if_pos rfl]
    rw [e3, hl, e6, this, if_pos ⟨hh, by rw [n1.1]; exact hu⟩, n3]
    omega
theorem mendU_sound {H : Heap} (h : Sound H) (hp : H.phase = 5) : Sound H.mendU := by
  unfold Heap.mendU
  have h0 := h.r1.hand
  have hs0 := h.r1.sub
  by_cases hh : H.hand = H.cells.length
  · rw [if_pos hh]; exact enter6_sound h hp hh
  · rw [if_neg hh]
    cases hs : (H.getC H.hand).pairs[H.sub.toNat]? with
    | none => simp only; exact skip_sound h hp (by omega) (by have := List.getElem?_eq_none_iff.1 hs; omega)
    | some p => simp only; exact mended_sound h hp (by omega) hs
noncomputable def Heap.closeA (H : Heap) : List Cell := if (H.getC (H.hand - 1)).state = 2 then H.cells.set (H.hand - 1).toNat Cell.zero else H.cells
noncomputable def Heap.closeU (H : Heap) : Heap :=
  if H.hand = 0 then { H.enterH 0 with rounds := if H.rounds < 1000000000 then H.rounds + 1 else H.rounds }
  else { H with hand := H.hand - 1, cells := if H.hand = H.cells.length ∧ (getL H.closeA (H.hand - 1)).state = 0 then H.closeA.take (H.hand - 1).toNat else H.closeA }
theorem enter0_sound {H : Heap} (h : Sound H) (hp : H.phase = 6) (hh : H.hand = 0) : Sound { H.enterH 0 with rounds := if H.rounds < 1000000000 then H.rounds + 1 else H.rounds } := by
  obtain ⟨g1, g2⟩ := h.r5.else_ (not_mark (by omega))
  have hr := h.r1.rounds
  refine ⟨{ h.r1 with phase := by simp [Heap.enterH], hand := by simp [Heap.enterH], sub := by simp [Heap.enterH], rounds := by show 0 ≤ (if H.rounds < 1000000000 then H.rounds + 1 else H.rounds) ∧ (if H.rounds < 1000000000 then H.rounds + 1 else H.rounds) ≤ 1000000000; split <;> omega }, ⟨fun j d hd => ?_, h.r2.born, h.r2.to⟩, h.r3, ?_, ⟨fun hn => ?_, fun _ => ⟨g1, fun i c hc => ⟨(g2 i c hc).1, fun e => by have := (g2 i c hc).2 e; omega⟩⟩⟩, ?_, R7.nil ?_, R8.nil (by simp [Heap.enterH])⟩
  · rcases h.r2.each j d hd with h1 | h1 | h1
    · exact .inl h1
    · have := h.r8 hp j d hd (by omega)
      exact absurd h1.1 this
    · exact .inr (.inr h1)
  · exact r4_frame h.r4 rfl rfl (fun _ => rfl) (fun j => ⟨fun h => by have := h.1; simp [Heap.enterH] at this, fun h => by have := h.1; omega⟩) (same_orig rfl) (fun _ _ _ _ _ _ _ => not_mend (by omega) _ _)
  · rcases hn with e | e <;> simp [Heap.enterH] at e
  · exact (r6_0 (by simp [Heap.enterH])).2 ⟨rfl, rfl⟩
  · rintro (e | e) <;> simp [Heap.enterH] at e
theorem lead1 {H : Heap} (h : Sound H) (hp : H.phase = 6) : (∀ w, w ∈ H.regs → Formed H w ∧ (w.kind = 2 → (H.getC w.at_).state = 1)) ∧ ∀ (i : Nat) c, H.cells[i]? = some c → ∀ (k : Nat) p, c.pairs[k]? = some p → ∀ w, (w = p.key ∨ w = p.val) → Formed H w ∧ (w.kind = 2 → (H.getC w.at_).state = 1) :=
  ⟨fun w hw => ⟨(reg_used h.r4 hw).1, fun hk => ((reg_used h.r4 hw).2 hk).1⟩, fun i c hc k p hk w hw => by
    have m := pair_used h.r4 hc hk (not_mend (by omega) _ _) (not_doom (by omega) _) (w := w) hw
    exact ⟨m.1, fun hk => (m.2 hk).1⟩⟩
theorem r4_lead1 {K : Heap} (hp : K.phase = 6) (h : (∀ w, w ∈ K.regs → Formed K w ∧ (w.kind = 2 → (K.getC w.at_).state = 1)) ∧ ∀ (i : Nat) c, K.cells[i]? = some c → ∀ (k : Nat) p, c.pairs[k]? = some p → ∀ w, (w = p.key ∨ w = p.val) → Formed K w ∧ (w.kind = 2 → (K.getC w.at_).state = 1)) : R4 K := by
  have nd : ∀ j, ¬ Doomed K j := fun j => not_doom (by omega) j
  refine ⟨fun w hw => ⟨(h.1 w hw).1, fun hk => .inl ⟨(h.1 w hw).2 hk, nd _⟩⟩, fun i c hc hd => absurd hd (nd i), fun i c hc k p hk => ?_⟩
  have m := h.2 i c hc k p hk
  exact ⟨(m _ (.inl rfl)).1, (m _ (.inr rfl)).1, fun _ => ⟨fun hk => .inl ⟨(m _ (.inl rfl)).2 hk, nd _⟩, fun hk => .inl ⟨(m _ (.inr rfl)).2 hk, nd _⟩⟩⟩
theorem closeA_sound {H : Heap} (h : Sound H) (hp : H.phase = 6) (hh : H.hand ≠ 0) : Sound { H with hand := H.hand - 1, cells := H.closeA } := by
  have h0 := h.r1.hand
  have hs0 := sub0 h.r6 (by omega)
  obtain ⟨g1, g2⟩ := h.r5.else_ (not_mark (by omega))
  obtain ⟨l1, l2⟩ := lead1 h hp
  have hc := getL_some (cs := H.cells) (j := H.hand - 1) (by omega) (by omega)
  rw [← getC_L] at hc
  have hlt := (List.getElem?_eq_some_iff.1 hc).1
  generalize hK : ({ H with hand := H.hand - 1, cells := H.closeA } : Heap) = K
  have e1 : K.cells = H.closeA := by rw [← hK]
  have e2 : K.phase = H.phase := by rw [← hK]
  have e3 : K.hand = H.hand - 1 := by rw [← hK]
  have e4 : K.regs = H.regs := by rw [← hK]
  have e5 : K.gray = H.gray := by rw [← hK]
  have e6 : K.sub = H.sub := by rw [← hK]
  have e7 : K.born = H.born := by rw [← hK]
  have e8 : K.used = H.used := by rw [← hK]
  have e9 : K.room = H.room := by rw [← hK]
  have hl : K.cells.length = H.cells.length := by rw [e1]; unfold Heap.closeA; split <;> simp
  have gs : ∀ j : Int, (H.getC j).state = 1 → K.getC j = H.getC j := fun j hj => by
    rw [getC_L, getC_L, e1]
    unfold Heap.closeA
    split
    · rename_i hs
      rw [getL_set hlt]
      split
      · rename_i e
        have : H.getC j = H.getC (H.hand - 1) := by rw [getC_L, getL_at hc e]
        rw [this] at hj; omega
      · rfl
    · rfl
  have cell : ∀ (j : Nat) d, K.cells[j]? = some d → (d = Cell.zero ∧ (j : Int) = H.hand - 1) ∨ (H.cells[j]? = some d ∧ ((j : Int) = H.hand - 1 → d.state ≠ 2)) := fun j d hd => by
    rw [e1] at hd
    unfold Heap.closeA at hd
    split at hd
    · rcases set_gt hd with ⟨a, b, _⟩ | ⟨a, b⟩
      · exact .inl ⟨b, by omega⟩
      · exact .inr ⟨b, fun e => by omega⟩
    · rename_i hs
      refine .inr ⟨hd, fun e => ?_⟩
      have := getC_nat hd
      rw [e] at this
      rw [← this]; exact hs
  refine ⟨?_, ⟨fun j d hd => ?_, fun i j c d hc' hd hij h1 h2 => ?_, fun i j c d hc' hd hij h1 h2 => ?_⟩, ?_, r4_lead1 (by omega) ⟨fun w hw => ?_, fun i c hc' k q hk w hw => ?_⟩, ⟨fun hn => absurd hn (not_mark (by omega)), fun _ => ⟨by rw [e5]; exact g1, fun i c hc' => ?_⟩⟩, ?_, R7.nil (not_mark (by omega)), fun _ i c hc' hi => ?_⟩
  · have hx := h.r1
    have hl2 : H.closeA.length = H.cells.length := by rw [← e1]; exact hl
    subst hK
    exact { h.r1 with cells := by rw [hl]; exact h.r1.cells, gray := by rw [hl]; exact h.r1.gray, hand := by rw [hl]; show 0 ≤ H.hand - 1 ∧ H.hand - 1 ≤ (H.cells.length : Int); omega }
  · rcases cell j d hd with ⟨rfl, _⟩ | ⟨a, b⟩
    · exact .inl ⟨rfl, ⟨rfl, rfl, rfl, rfl, rfl, rfl⟩, rfl⟩
    · rcases h.r2.each j d a with h1 | h1 | h1
      · exact .inl h1
      · obtain ⟨a1, a2, a3, a4, a5, a6⟩ := h1
        exact .inr (.inl ⟨a1, a2, by omega, a4, by rw [gs _ a5]; exact a5, fun e => by omega⟩)
      · exact .inr (.inr (by unfold UsedOk at *; rw [e7]; exact h1))
  · rcases cell i c hc' with ⟨rfl, _⟩ | ⟨a, _⟩
    · simp [Cell.zero] at h1
    rcases cell j d hd with ⟨rfl, _⟩ | ⟨b, _⟩
    · simp [Cell.zero] at h2
    exact h.r2.born i j c d a b hij h1 h2
  · rcases cell i c hc' with ⟨rfl, _⟩ | ⟨a, _⟩
    · simp [Cell.zero] at h1
    rcases cell j d hd with ⟨rfl, _⟩ | ⟨b, _⟩
    · simp [Cell.zero] at h2
    exact h.r2.to i j c d a b hij h1 h2
  · have h3 := h.r3
    unfold R3 at h3 ⊢
    rw [e1, e8, e9]
    unfold Heap.closeA
    split
    · rename_i hs
      rw [units_set hc]
      have u1 : (H.getC (H.hand - 1)).units = 0 := by unfold Cell.units; rw [if_neg (by omega)]
      have u2 : Cell.zero.units = 0 := rfl
      omega
    · exact h3
  · rw [e4] at hw
    obtain ⟨a, b⟩ := l1 w hw
    exact ⟨formed_len hl a, fun hk => by rw [gs _ (b hk)]; exact b hk⟩
  · rcases cell i c hc' with ⟨rfl, _⟩ | ⟨a, _⟩
    · simp [Cell.zero] at hk
    · obtain ⟨a, b⟩ := l2 i c a k q hk w hw
      exact ⟨formed_len hl a, fun hk => by rw [gs _ (b hk)]; exact b hk⟩
  · rcases cell i c hc' with ⟨rfl, _⟩ | ⟨a, _⟩
    · exact ⟨by simp [Cell.zero], by simp [Cell.zero]⟩
    · exact ⟨(g2 _ _ a).1, fun e => by have := (g2 _ _ a).2 e; omega⟩
  · exact (r6_e (by omega)).2 (by rw [e6]; exact hs0)
  · rcases cell i c hc' with ⟨rfl, _⟩ | ⟨a, b⟩
    · simp [Cell.zero]
    · by_cases e : (i : Int) = H.hand - 1
      · exact b e
      · exact h.r8 hp i c a (by omega)
theorem unitsN_append (a b : List Cell) : unitsN (a ++ b) = unitsN a + unitsN b := by
  unfold unitsN
  rw [List.map_append, List.sum_append]
theorem cut_sound {H : Heap} (h : Sound H) (hp : H.phase = 6) (hh : H.hand + 1 = H.cells.length) (hs : (H.getC H.hand).state = 0) : Sound { H with cells := H.cells.take H.hand.toNat } := by
  have h0 := h.r1.hand
  have hs0 := sub0 h.r6 (by omega)
  obtain ⟨g1, g2⟩ := h.r5.else_ (not_mark (by omega))
  obtain ⟨l1, l2⟩ := lead1 h hp
  have hc := getL_some (cs := H.cells) (j := H.hand) (by omega) (by omega)
  rw [← getC_L] at hc
  have hlt := (List.getElem?_eq_some_iff.1 hc).1
  generalize hK : ({ H with cells := H.cells.take H.hand.toNat } : Heap) = K
  have e1 : K.cells = H.cells.take H.hand.toNat := by rw [← hK]
  have e2 : K.phase = H.phase := by rw [← hK]
  have e3 : K.hand = H.hand := by rw [← hK]
  have e4 : K.regs = H.regs := by rw [← hK]
  have e5 : K.gray = H.gray := by rw [← hK]
  have e6 : K.sub = H.sub := by rw [← hK]
  have e7 : K.born = H.born := by rw [← hK]
  have e8 : K.used = H.used := by rw [← hK]
  have e9 : K.room = H.room := by rw [← hK]
  have hl : (K.cells.length : Int) = H.hand := by rw [e1, List.length_take]; omega
  have cell : ∀ (j : Nat) d, K.cells[j]? = some d → H.cells[j]? = some d ∧ (j : Int) < H.hand := fun j d hd => by
    have := (List.getElem?_eq_some_iff.1 hd).1
    refine ⟨?_, by omega⟩
    rw [e1, List.getElem?_take, if_pos (by omega)] at hd
    exact hd
  have gs : ∀ j : Int, 0 ≤ j → j < H.hand → K.getC j = H.getC j := fun j a b => by
    rw [getC_L, getC_L, e1]
    unfold getL
    rw [List.getD_eq_getElem?_getD, List.getD_eq_getElem?_getD, List.getElem?_take, if_pos (by omega)]
  have ok : ∀ w, Formed H w → (w.kind = 2 → (H.getC w.at_).state = 1) → Formed K w ∧ (w.kind = 2 → (K.getC w.at_).state = 1) := fun w hf hw => by
    have lt : w.kind = 2 → 0 ≤ w.at_ ∧ w.at_ < H.hand := fun hk => by
      have hat := hf.at hk
      have h1 := hw hk
      have : w.at_ ≠ H.hand := fun e => by rw [e, hs] at h1; omega
      omega
    refine ⟨?_, fun hk => by rw [gs _ (lt hk).1 (lt hk).2]; exact hw hk⟩
    rcases hf with x | x | x
    · exact .inl x
    · exact .inr (.inl x)
    · exact .inr (.inr ⟨x.1, x.2.1, (lt x.1).1, by have := (lt x.1).2; omega⟩)
  refine ⟨?_, ⟨fun j d hd => ?_, fun i j c d hc' hd hij h1 h2 => h.r2.born i j c d (cell i c hc').1 (cell j d hd).1 hij h1 h2, fun i j c d hc' hd hij h1 h2 => h.r2.to i j c d (cell i c hc').1 (cell j d hd).1 hij h1 h2⟩, ?_, r4_lead1 (by omega) ⟨fun w hw => ?_, fun i c hc' k q hk w hw => ?_⟩, ⟨fun hn => absurd hn (not_mark (by omega)), fun _ => ⟨by rw [e5]; exact g1, fun i c hc' => ?_⟩⟩, ?_, R7.nil (not_mark (by omega)), fun _ i c hc' hi => ?_⟩
  · have hx := h.r1.cells
    subst hK
    exact { h.r1 with cells := by omega, gray := by show H.gray.length ≤ _; rw [g1]; simp, hand := by rw [hl]; exact ⟨h0.1, Int.le_refl _⟩ }
  · obtain ⟨a, b⟩ := cell j d hd
    rcases h.r2.each j d a with h1 | h1 | h1
    · exact .inl h1
    · obtain ⟨a1, a2, a3, a4, a5, a6⟩ := h1
      exact .inr (.inl ⟨a1, a2, by omega, a4, by rw [gs _ a4.1 (by omega)]; exact a5, fun e => by omega⟩)
    · exact .inr (.inr (by unfold UsedOk at *; rw [e7]; exact h1))
  · have h3 := h.r3
    unfold R3 at h3 ⊢
    rw [e1, e8, e9]
    have : H.cells = H.cells.take H.hand.toNat ++ [H.getC H.hand] := by
      have hx := List.take_append_drop H.hand.toNat H.cells
      rw [List.drop_eq_getElem_cons (by omega), List.drop_eq_nil_of_le (by omega)] at hx
      have hy := (List.getElem?_eq_some_iff.1 hc).2
      rw [hy] at hx
      exact hx.symm
    rw [this, unitsN_append] at h3
    have u : unitsN [H.getC H.hand] = 0 := by simp [unitsN, Cell.units, hs]
    omega
  · rw [e4] at hw
    obtain ⟨a, b⟩ := l1 w hw
    exact ok w a b
  · obtain ⟨a, b⟩ := l2 i c (cell i c hc').1 k q hk w hw
    exact ok w a b
  · have a := (cell i c hc').1
    exact ⟨(g2 _ _ a).1, fun e => by have := (g2 _ _ a).2 e; omega⟩
  · exact (r6_e (by omega)).2 (by rw [e6]; exact hs0)
  · obtain ⟨a, b⟩ := cell i c hc'
    omega
theorem closeU_sound {H : Heap} (h : Sound H) (hp : H.phase = 6) : Sound H.closeU := by
  unfold Heap.closeU
  by_cases hh : H.hand = 0
  · rw [if_pos hh]; exact enter0_sound h hp hh
  · rw [if_neg hh]
    have hA := closeA_sound h hp hh
    have hl : H.closeA.length = H.cells.length := by unfold Heap.closeA; split <;> simp
    split
    · rename_i e
      have := cut_sound (H := { H with hand := H.hand - 1, cells := H.closeA }) hA hp (by simp only; omega) e.2
      exact this
    · exact hA
end Go.Proofs.Ytcmllambknfleaa.E
set_option linter.unusedVariables false
set_option linter.unusedSimpArgs false
namespace Go.Proofs.Ytcmllambknfleaa.E
open Go
open Classical
noncomputable def Heap.unitH (H : Heap) : Heap :=
  if H.phase = 1 then H.rootsU else if H.phase = 2 then H.markU else if H.phase = 3 then H.sweepU else if H.phase = 4 then H.moveU else if H.phase = 5 then H.mendU else if H.phase = 6 then H.closeU else H
theorem unit_sound {H : Heap} (h : Sound H) : Sound H.unitH := by
  unfold Heap.unitH
  split
  · exact rootsU_sound h ‹_›
  split
  · exact markU_sound h ‹_›
  split
  · exact sweepU_sound h ‹_›
  split
  · exact moveU_sound h ‹_›
  split
  · exact mendU_sound h ‹_›
  split
  · exact closeU_sound h ‹_›
  exact h
theorem begin_sound {H : Heap} (h : Sound H) (hp : H.phase = 0) : Sound (H.enterH 1) := by
  obtain ⟨g1, g2⟩ := h.r5.else_ (not_mark (by omega))
  refine ⟨{ h.r1 with phase := by simp [Heap.enterH], hand := by simp [Heap.enterH], sub := by simp [Heap.enterH] }, ⟨fun j d hd => ?_, h.r2.born, h.r2.to⟩, h.r3, ?_, ⟨fun _ => ?_, fun hn => absurd (.inl rfl) hn⟩, ?_, fun _ j d hd => ?_, R8.nil (by simp [Heap.enterH])⟩
  · rcases h.r2.each j d hd with h1 | h1 | h1
    · exact .inl h1
    · have := h1.2.2.1; omega
    · exact .inr (.inr h1)
  · exact r4_frame h.r4 rfl rfl (fun _ => rfl) (fun j => ⟨fun h => by have := h.1; simp [Heap.enterH] at this, fun h => by have := h.1; omega⟩) (same_orig rfl) (fun _ _ _ _ _ _ _ => not_mend (by omega) _ _)
  · have : (H.enterH 1).gray = [] := g1
    rw [this]
    exact ⟨by simp, fun g hg => by simp at hg, fun i c hc e => absurd e (g2 i c hc).1⟩
  · exact (r6_e (by simp [Heap.enterH])).2 rfl
  · refine ⟨fun _ _ => ⟨by simp [Heap.enterH], by show (0 : Int) ≤ j; omega⟩, fun k p hk hs => ?_⟩
    unfold scanned at hs
    rw [if_neg (fun e => by have := (g2 j d hd).2 e; omega), if_neg (by simp [Heap.enterH])] at hs
    omega
noncomputable def wgt (c : Cell) : Int := if c.color = 0 then 408 else if c.color = 1 then 204 else 0
noncomputable def wN (cs : List Cell) : Int := (cs.map wgt).sum
theorem wN_set : ∀ {cs : List Cell} {i : Nat} {c d : Cell}, cs[i]? = some c → wN (cs.set i d) = wN cs - wgt c + wgt d
  | [], i, c, d, h => by simp at h
  | a :: r, 0, c, d, h => by
    simp only [List.getElem?_cons_zero, Option.some.injEq] at h
    subst h
    simp only [wN, List.set_cons_zero, List.map_cons, List.sum_cons]; omega
  | a :: r, i + 1, c, d, h => by
    simp only [List.getElem?_cons_succ] at h
    have := wN_set (d := d) h
    simp only [wN, List.set_cons_succ, List.map_cons, List.sum_cons] at this ⊢; omega
theorem wgt_b (c : Cell) : 0 ≤ wgt c ∧ wgt c ≤ 408 := by
  unfold wgt
  split
  · omega
  · split <;> omega
theorem wN_b : ∀ cs : List Cell, 0 ≤ wN cs ∧ wN cs ≤ 408 * cs.length
  | [] => by simp [wN]
  | c :: r => by
    have h1 := wN_b r
    have h2 := wgt_b c
    simp only [wN, List.map_cons, List.sum_cons, List.length_cons] at h1 ⊢
    omega
theorem shadeW_no {H : Heap} {w : Word} (h : ¬ White H w) (hf : Formed H w) : H.shadeW w = H := by
  unfold Heap.shadeW
  split
  · rename_i hk
    have hat := hf.at hk
    unfold Heap.shadeH
    rw [if_neg]
    rintro ⟨_, e⟩
    rw [show ((w.at_.toNat : Nat) : Int) = w.at_ by omega] at e
    exact h ⟨hk, e⟩
  · rfl
theorem shadeW_yes {H : Heap} {w : Word} (h : White H w) (hm : Marking H) (hf : Formed H w) : wN (H.shadeW w).cells = wN H.cells - 204 := by
  have hat := hf.at h.1
  have hc := getL_some (cs := H.cells) hat.1 hat.2
  rw [← getC_L] at hc
  have e : ((w.at_.toNat : Nat) : Int) = w.at_ := by omega
  unfold Heap.shadeW
  rw [if_pos h.1]
  unfold Heap.shadeH
  rw [e, if_pos ⟨hm, h.2⟩]
  show wN (H.cells.set w.at_.toNat ((H.getC w.at_).col 1)) = _
  rw [wN_set hc]
  have w1 : wgt (H.getC w.at_) = 408 := by unfold wgt; rw [if_pos h.2]
  have w2 : wgt ((H.getC w.at_).col 1) = 204 := by simp [wgt, Cell.col]
  omega
theorem shadeW_w {H : Heap} {w : Word} (hm : Marking H) (hf : Formed H w) : wN (H.shadeW w).cells ≤ wN H.cells ∧ (White H w → wN (H.shadeW w).cells < wN H.cells) := by
  by_cases h : White H w
  · have := shadeW_yes h hm hf
    exact ⟨by omega, fun _ => by omega⟩
  · rw [shadeW_no h hf]
    exact ⟨Int.le_refl _, fun h' => absurd h' h⟩
theorem shadeL_w : ∀ (ws : List Word) (H : Heap), Marking H → (∀ w, w ∈ ws → Formed H w ∧ (w.kind = 2 → (H.getC w.at_).state = 1)) → wN (H.shadeL ws).cells ≤ wN H.cells ∧ ((∃ w, w ∈ ws ∧ White H w) → wN (H.shadeL ws).cells < wN H.cells)
  | [], H, _, _ => ⟨Int.le_refl _, fun ⟨w, hw, _⟩ => by cases hw⟩
  | w :: r, H, hm, h => by
    obtain ⟨a, _⟩ := shadeW_ok (h w (by simp)).1 (h w (by simp)).2
    obtain ⟨b1, b2⟩ := shadeW_w hm (h w (by simp)).1
    have hm' : Marking (H.shadeW w) := by unfold Marking at *; rw [a.phase]; exact hm
    obtain ⟨k1, k2⟩ := shadeL_w r (H.shadeW w) hm' (fun v hv => ⟨formed_len a.len (h v (by simp [hv])).1, fun hk => by rw [(a.cell _).1]; exact (h v (by simp [hv])).2 hk⟩)
    have e : H.shadeL (w :: r) = (H.shadeW w).shadeL r := rfl
    rw [e]
    refine ⟨by omega, ?_⟩
    rintro ⟨v, hv, hw⟩
    by_cases h' : White H w
    · have := b2 h'; omega
    · rcases List.mem_cons.1 hv with rfl | hv
      · exact absurd hw h'
      · have e2 := shadeW_no h' (h w (by simp)).1
        rw [e2] at k2 ⊢
        exact k2 ⟨v, hv, hw⟩
noncomputable def Heap.M (H : Heap) : Int :=
  if H.phase = 1 then 8000001 + H.cells.length - H.hand
  else if H.phase = 2 then 4000201 + wN H.cells - H.sub
  else if H.phase = 3 then 3000001 + H.cells.length - H.hand
  else if H.phase = 4 then 2000002 + luG H H.cells.length
  else if H.phase = 5 then 10201 + (H.cells.length - H.hand) * 202 - H.sub
  else if H.phase = 6 then H.hand + 1 else 0
theorem M1 {H : Heap} (h : H.phase = 1) : H.M = 8000001 + H.cells.length - H.hand := by unfold Heap.M; rw [if_pos h]
theorem M2 {H : Heap} (h : H.phase = 2) : H.M = 4000201 + wN H.cells - H.sub := by unfold Heap.M; rw [if_neg (by omega), if_pos h]
theorem M3 {H : Heap} (h : H.phase = 3) : H.M = 3000001 + H.cells.length - H.hand := by unfold Heap.M; rw [if_neg (by omega), if_neg (by omega), if_pos h]
theorem M4 {H : Heap} (h : H.phase = 4) : H.M = 2000002 + luG H H.cells.length := by unfold Heap.M; rw [if_neg (by omega), if_neg (by omega), if_neg (by omega), if_pos h]
theorem M5 {H : Heap} (h : H.phase = 5) : H.M = 10201 + (H.cells.length - H.hand) * 202 - H.sub := by unfold Heap.M; rw [if_neg (by omega), if_neg (by omega), if_neg (by omega), if_neg (by omega), if_pos h]
theorem M6 {H : Heap} (h : H.phase = 6) : H.M = H.hand + 1 := by unfold Heap.M; rw [if_neg (by omega), if_neg (by omega), if_neg (by omega), if_neg (by omega), if_neg (by omega), if_pos h]
theorem M0 {H : Heap} (h : H.phase = 0) : H.M = 0 := by unfold Heap.M; rw [if_neg (by omega), if_neg (by omega), if_neg (by omega), if_neg (by omega), if_neg (by omega), if_neg (by omega)]
theorem M_b {H : Heap} (h : R1 H) : 0 ≤ H.M ∧ H.M ≤ 8008001 := by
  have h1 := h.cells
  have h2 := h.room
  have h3 := h.hand
  have h4 := h.sub
  have h5 := h.phase
  have h6 := wN_b H.cells
  have h7 := luG_ok H H.cells.length
  unfold Heap.M
  repeat' split
  all_goals omega
theorem M_dec {H : Heap} (h : Sound H) (hp : H.phase ≠ 0) : H.unitH.M < H.M := by
  have h1 := h.r1.cells
  have h2 := h.r1.room
  have h3 := h.r1.hand
  have h4 := h.r1.sub
  have h5 := h.r1.phase
  have h6 := wN_b H.cells
  have e6 : ∀ p, (H.enterH p).phase = p ∧ (H.enterH p).cells = H.cells ∧ (H.enterH p).sub = 0 := fun p => ⟨rfl, rfl, rfl⟩
  have hl1 : ∀ (K : Heap), K.cells.length = H.cells.length → (K.cells.length : Int) = H.cells.length := fun K e => by omega
  rcases (by omega : H.phase = 1 ∨ H.phase = 2 ∨ H.phase = 3 ∨ H.phase = 4 ∨ H.phase = 5 ∨ H.phase = 6) with e | e | e | e | e | e
  · rw [M1 e]
    unfold Heap.unitH
    rw [if_pos e]
    unfold Heap.rootsU
    by_cases hh : H.hand = H.cells.length
    · rw [if_pos hh, M2 (e6 2).1, (e6 2).2.1, (e6 2).2.2]; omega
    · rw [if_neg hh]
      by_cases hr : Root (H.getC H.hand)
      · rw [if_pos hr]
        have e' : ((H.hand.toNat : Nat) : Int) = H.hand := by omega
        obtain ⟨a, b⟩ := shadeH_ok (H := H) (i := H.hand.toNat) (by omega) (by rw [e']; exact hr.1)
        rw [M1 (by show (H.shadeH _).phase = 1; rw [a.phase, e])]
        have := a.len
        show 8000001 + ((H.shadeH H.hand.toNat).cells.length : Int) - (H.hand + 1) < _
        omega
      · rw [if_neg hr, M1 (by exact e)]
        show 8000001 + (H.cells.length : Int) - (H.hand + 1) < _
        omega
  · rw [M2 e]
    unfold Heap.unitH
    rw [if_neg (by omega), if_pos e]
    unfold Heap.markU
    have hm : Marking H := .inr e
    cases hg : H.gray with
    | nil =>
      simp only
      have hr := fun w hw => reg_used h.r4 (w := w) hw
      have hr' : ∀ w, w ∈ H.regs → Formed H w ∧ (w.kind = 2 → (H.getC w.at_).state = 1) := fun w hw => ⟨(hr w hw).1, fun hk => ((hr w hw).2 hk).1⟩
      by_cases hx : ∃ w, w ∈ H.regs ∧ White H w
      · rw [if_pos hx]
        have a := (shadeL_ok H.regs H hr').1
        have b := (shadeL_w H.regs H hm hr').2 hx
        rw [M2 (by rw [a.phase, e]), a.sub]; omega
      · rw [if_neg hx, M3 (e6 3).1, (e6 3).2.1]
        have : (H.enterH 3).hand = 0 := rfl
        omega
    | cons g r =>
      simp only
      obtain ⟨g1, g2, g3⟩ := h.r5.mark hm
      obtain ⟨b0, b1, b2, b3⟩ := g2 g (by rw [hg]; simp)
      have hc := getL_some (cs := H.cells) b0 b1
      rw [← getC_L] at hc
      cases hs : (H.getC g).pairs[H.sub.toNat]? with
      | none =>
        simp only
        rw [M2 (by exact e)]
        show 4000201 + wN (H.cells.set g.toNat ((H.getC g).col 2)) - 0 < _
        rw [wN_set hc]
        have w1 : wgt (H.getC g) = 204 := by unfold wgt; rw [if_neg (by omega), if_pos b3]
        have w2 : wgt ((H.getC g).col 2) = 0 := by simp [wgt, Cell.col]
        omega
      | some p =>
        simp only
        obtain ⟨a, b, c⟩ := markP2 h e hg hs
        obtain ⟨⟨k1, k2⟩, v1, v2⟩ := markP h e hg hs
        obtain ⟨s1, _⟩ := shadeW_ok k1 k2
        rw [M2 (by show ((H.shadeW p.key).shadeW p.val).phase = 2; rw [a.phase, e])]
        show 4000201 + wN ((H.shadeW p.key).shadeW p.val).cells - (H.sub + 1) < _
        have x1 := (shadeW_w hm k1).1
        have x2 := (shadeW_w (H := H.shadeW p.key) (w := p.val) (by unfold Marking at *; rw [s1.phase]; exact hm) (formed_len s1.len v1)).1
        omega
  · rw [M3 e]
    unfold Heap.unitH
    rw [if_neg (by omega), if_neg (by omega), if_pos e]
    unfold Heap.sweepU
    by_cases hh : H.hand = H.cells.length
    · rw [if_pos hh, M4 (e6 4).1, (e6 4).2.1]
      have := (luG_ok (H.enterH 4) H.cells.length).2.1
      omega
    · rw [if_neg hh]
      split
      · rw [M3 (by exact e)]
        show 3000001 + ((H.cells.set _ _).length : Int) - (H.hand + 1) < _
        rw [List.length_set]; omega
      · rw [M3 (by exact e)]
        show 3000001 + ((H.cells.set _ _).length : Int) - (H.hand + 1) < _
        rw [List.length_set]; omega
  · rw [M4 e]
    obtain ⟨a1, a2, a3, a4⟩ := frG_ok H H.cells.length
    obtain ⟨b1, b2, b3, b4⟩ := luG_ok H H.cells.length
    unfold Heap.unitH
    rw [if_neg (by omega), if_neg (by omega), if_neg (by omega), if_pos e]
    unfold Heap.moveU
    split
    · rw [M5 (e6 5).1, (e6 5).2.1, (e6 5).2.2]
      have : (H.enterH 5).hand = 0 := rfl
      omega
    · rename_i hfu
      generalize hu : luG H H.cells.length = u at *
      generalize hf : frG H H.cells.length = f at *
      have hcu := getL_some (cs := H.cells) (j := u) (by omega) b2
      have hltu := (List.getElem?_eq_some_iff.1 hcu).1
      have gC : ∀ j : Int, (H.moved f u).getC j = if j.toNat = u.toNat then Cell.gone f else if j.toNat = f.toNat then H.getC u else H.getC j := fun j => by
        rw [getC_L, getC_L]
        show getL ((H.cells.set f.toNat (H.getC u)).set u.toNat (Cell.gone f)) j = _
        rw [getL_set (by simp; omega), getL_set (by omega)]; rfl
      have hl : (H.moved f u).cells.length = H.cells.length := by simp [Heap.moved]
      rw [M4 (by exact e), hl]
      obtain ⟨c1, c2, c3, c4⟩ := luG_ok (H.moved f u) H.cells.length
      have : luG (H.moved f u) H.cells.length < u := by
        rcases Int.lt_or_le (luG (H.moved f u) H.cells.length) u with x | x
        · exact x
        · exfalso
          have hx := c3 (by omega)
          rw [gC] at hx
          generalize luG (H.moved f u) H.cells.length = v at *
          by_cases y : v.toNat = u.toNat
          · rw [if_pos y] at hx; simp [Cell.gone] at hx
          · rw [if_neg y, if_neg (by omega)] at hx
            have := b4 v.toNat (by omega) (by omega)
            rw [show ((v.toNat : Nat) : Int) = v by omega] at this
            exact this hx
      omega
  · rw [M5 e]
    unfold Heap.unitH
    rw [if_neg (by omega), if_neg (by omega), if_neg (by omega), if_neg (by omega), if_pos e]
    unfold Heap.mendU
    by_cases hh : H.hand = H.cells.length
    · rw [if_pos hh, M6 (e6 6).1]
      have : (H.enterH 6).hand = H.cells.length := by simp [Heap.enterH]
      omega
    · rw [if_neg hh]
      cases hs : (H.getC H.hand).pairs[H.sub.toNat]? with
      | none =>
        simp only
        rw [M5 (by exact e)]
        simp only
        omega
      | some p =>
        simp only
        rw [M5 (by exact e)]
        simp only [List.length_set]
        omega
  · rw [M6 e]
    unfold Heap.unitH
    rw [if_neg (by omega), if_neg (by omega), if_neg (by omega), if_neg (by omega), if_neg (by omega), if_pos e]
    unfold Heap.closeU
    split
    · rw [M0 (by rfl)]; omega
    · rw [M6 (by exact e)]
      simp only
      omega
noncomputable def iterU : Nat → Heap → Heap
  | 0, H => H
  | k + 1, H => iterU k H.unitH
theorem iterU_succ : ∀ (k : Nat) (H : Heap), iterU (k + 1) H = (iterU k H).unitH
  | 0, H => rfl
  | k + 1, H => iterU_succ k H.unitH
theorem iterU_sound : ∀ (k : Nat) {H : Heap}, Sound H → Sound (iterU k H)
  | 0, _, h => h
  | k + 1, _, h => iterU_sound k (unit_sound h)
def IsOut (H : Heap) (k : Nat) : Prop := (iterU k H).phase = 0 ∧ ∀ j, j < k → (iterU j H).phase ≠ 0
theorem IsOut.unique {H : Heap} {k l : Nat} (h : IsOut H k) (h' : IsOut H l) : k = l := by
  rcases Nat.lt_trichotomy k l with x | x | x
  · exact absurd h.1 (h'.2 k x)
  · exact x
  · exact absurd h'.1 (h.2 l x)
theorem out_ex : ∀ (n : Nat) {H : Heap}, Sound H → H.M.toNat ≤ n → ∃ k, k ≤ n ∧ IsOut H k
  | 0, H, h, hn => by
    refine ⟨0, Nat.le_refl _, ?_, fun j hj => by omega⟩
    show H.phase = 0
    rcases Decidable.em (H.phase = 0) with e | e
    · exact e
    · have h1 := M_dec h e
      have h2 := (M_b (unit_sound h).r1).1
      omega
  | n + 1, H, h, hn => by
    rcases Decidable.em (H.phase = 0) with e | e
    · exact ⟨0, by omega, e, fun j hj => by omega⟩
    · have h1 := M_dec h e
      have h2 := (M_b (unit_sound h).r1).1
      obtain ⟨k, hk, a, b⟩ := out_ex n (unit_sound h) (by omega)
      refine ⟨k + 1, by omega, a, fun j hj => ?_⟩
      cases j with
      | zero => exact e
      | succ j => exact b j (by omega)
noncomputable def outN (H : Heap) : Nat := Classical.epsilon (IsOut H)
theorem outN_ok {H : Heap} (h : Sound H) : IsOut H (outN H) ∧ outN H ≤ 8008001 := by
  have hb := M_b h.r1
  obtain ⟨k, hk, ho⟩ := out_ex 8008001 h (by omega)
  have := Classical.epsilon_spec (p := IsOut H) ⟨k, ho⟩
  exact ⟨this, by rw [show outN H = k from IsOut.unique this ho]; exact hk⟩
theorem out_phase {H : Heap} (h : Sound H) {j : Nat} (hj : j ≤ outN H) : (iterU j H).phase = 0 ↔ j = outN H := by
  obtain ⟨⟨a, b⟩, _⟩ := outN_ok h
  constructor
  · intro e
    rcases Nat.lt_or_ge j (outN H) with x | x
    · exact absurd e (b j x)
    · omega
  · intro e; rw [e]; exact a
noncomputable def Heap.beginH (H : Heap) : Heap := if H.phase = 0 then H.enterH 1 else H
theorem beginH_ok {H : Heap} (h : Sound H) : Sound H.beginH := by
  unfold Heap.beginH
  split
  · exact begin_sound h ‹_›
  · exact h
/-- how many of n units are done -/
noncomputable def stepN (H : Heap) (n : Int) : Nat := if n = 0 then 0 else min n.toNat (outN H.beginH)
noncomputable def Heap.stepH (H : Heap) (n : Int) : Heap := if n = 0 then H else iterU (stepN H n) H.beginH
theorem stepH_ok {H : Heap} (h : Sound H) (n : Int) : Sound (H.stepH n) := by
  unfold Heap.stepH
  split
  · exact h
  · exact iterU_sound _ (beginH_ok h)
end Go.Proofs.Ytcmllambknfleaa.E
set_option maxRecDepth 100000
set_option linter.unusedVariables false
namespace Go.Proofs.Ytcmllambknfleaa.E
open Go
noncomputable def e117 : Env := ⟨Try.prog, [1, 5, 7, 8, 10, 25, 49, 56, 71], 75, []⟩
noncomputable def c117 : C :=
  .seq (.reg [
    ⟨some 1, none, .box true (.tmp 0)⟩,
    ⟨some 2, none, .mov (.const (.pointer none))⟩]) (.seq (.reg [
    ⟨some 13, none, .load false 13 (.tmp 1)⟩,
    ⟨some 3, none, .alloc false [.int .i64 0, .int .i64 0, .int .i64 0, .slice none 0 0, .slice none 0 0, .int .i64 0, .int .i64 0, .int .i64 0, .slice none 0 0, .int .i64 0, .int .i64 0, .int .i64 0, .int .i64 0]⟩,
    ⟨none, none, .store 13 (.tmp 3) (.tmp 13)⟩]) (.seq (.reg [
    ⟨some 14, none, .faddr 3 (.tmp 3)⟩,
    ⟨none, none, .store 1 (.tmp 14) (.const (.slice none 0 0))⟩]) (.seq (.seq (.reg [
    ⟨some 15, none, .faddr 3 (.tmp 1)⟩,
    ⟨some 16, none, .load true 1 (.tmp 15)⟩,
    ⟨some 17, none, .lenS (.tmp 16)⟩,
    ⟨some 18, none, .mov (.const (.int .i64 0))⟩]) (.block 0 (.loop (.seq (.reg [
    ⟨some 19, none, .bin .lss (.tmp 18) (.tmp 17)⟩]) (.seq (.cond (.tmp 19) (.skip) (.exit 0)) (.seq (.block 1 (.seq (.reg [
    ⟨some 20, none, .iaddr 3 (.tmp 16) (.tmp 18)⟩,
    ⟨some 21, none, .load false 3 (.tmp 20)⟩,
    ⟨some 5, none, .alloc true [.int .i64 0, .int .i64 0, .int .i64 0]⟩,
    ⟨none, none, .store 3 (.tmp 5) (.tmp 21)⟩]) (.reg [
    ⟨some 22, none, .faddr 3 (.tmp 3)⟩,
    ⟨some 23, none, .load true 1 (.tmp 22)⟩,
    ⟨some 24, none, .load false 3 (.tmp 5)⟩,
    ⟨some 25, none, .bslice true 1 3 [.int .i64 0, .int .i64 0, .int .i64 0] [(0, 3, .tmp 24)]⟩,
    ⟨some 26, none, .app 3 24 [.int .i64 0, .int .i64 0, .int .i64 0] (.tmp 23) (.tmp 25)⟩,
    ⟨some 27, none, .faddr 3 (.tmp 3)⟩,
    ⟨none, none, .store 1 (.tmp 27) (.tmp 26)⟩]))) (.reg [
    ⟨some 28, none, .bin .add (.tmp 18) (.const (.int .i64 1))⟩,
    ⟨some 18, none, .mov (.tmp 28)⟩]))))))) (.seq (.reg [
    ⟨some 29, none, .faddr 4 (.tmp 3)⟩,
    ⟨none, none, .store 1 (.tmp 29) (.const (.slice none 0 0))⟩]) (.seq (.seq (.reg [
    ⟨some 30, none, .faddr 4 (.tmp 1)⟩,
    ⟨some 31, none, .load true 1 (.tmp 30)⟩,
    ⟨some 32, none, .lenS (.tmp 31)⟩,
    ⟨some 33, none, .mov (.const (.int .i64 0))⟩]) (.block 2 (.loop (.seq (.reg [
    ⟨some 34, none, .bin .lss (.tmp 33) (.tmp 32)⟩]) (.seq (.cond (.tmp 34) (.skip) (.exit 2)) (.seq (.block 3 (.seq (.reg [
    ⟨some 35, none, .iaddr 8 (.tmp 31) (.tmp 33)⟩,
    ⟨some 36, none, .load false 8 (.tmp 35)⟩,
    ⟨some 7, none, .alloc true [.int .i64 0, .int .i64 0, .int .i64 0, .int .i64 0, .int .i64 0, .int .i64 0, .int .i64 0, .slice none 0 0]⟩,
    ⟨none, none, .store 8 (.tmp 7) (.tmp 36)⟩]) (.seq (.reg [
    ⟨some 37, none, .load false 8 (.tmp 7)⟩,
    ⟨some 8, none, .alloc true [.int .i64 0, .int .i64 0, .int .i64 0, .int .i64 0, .int .i64 0, .int .i64 0, .int .i64 0, .slice none 0 0]⟩,
    ⟨none, none, .store 8 (.tmp 8) (.tmp 37)⟩]) (.seq (.reg [
    ⟨some 38, none, .faddr 7 (.tmp 8)⟩,
    ⟨none, none, .store 1 (.tmp 38) (.const (.slice none 0 0))⟩]) (.seq (.seq (.reg [
    ⟨some 39, none, .faddr 7 (.tmp 7)⟩,
    ⟨some 40, none, .load true 1 (.tmp 39)⟩,
    ⟨some 41, none, .lenS (.tmp 40)⟩,
    ⟨some 42, none, .mov (.const (.int .i64 0))⟩]) (.block 4 (.loop (.seq (.reg [
    ⟨some 43, none, .bin .lss (.tmp 42) (.tmp 41)⟩]) (.seq (.cond (.tmp 43) (.skip) (.exit 4)) (.seq (.block 5 (.seq (.reg [
    ⟨some 44, none, .iaddr 6 (.tmp 40) (.tmp 42)⟩,
    ⟨some 45, none, .load false 6 (.tmp 44)⟩,
    ⟨some 10, none, .alloc true [.int .i64 0, .int .i64 0, .int .i64 0, .int .i64 0, .int .i64 0, .int .i64 0]⟩,
    ⟨none, none, .store 6 (.tmp 10) (.tmp 45)⟩]) (.reg [
    ⟨some 46, none, .faddr 7 (.tmp 8)⟩,
    ⟨some 47, none, .load true 1 (.tmp 46)⟩,
    ⟨some 48, none, .load false 6 (.tmp 10)⟩,
    ⟨some 49, none, .bslice true 1 6 [.int .i64 0, .int .i64 0, .int .i64 0, .int .i64 0, .int .i64 0, .int .i64 0] [(0, 6, .tmp 48)]⟩,
    ⟨some 50, none, .app 6 48 [.int .i64 0, .int .i64 0, .int .i64 0, .int .i64 0, .int .i64 0, .int .i64 0] (.tmp 47) (.tmp 49)⟩,
    ⟨some 51, none, .faddr 7 (.tmp 8)⟩,
    ⟨none, none, .store 1 (.tmp 51) (.tmp 50)⟩]))) (.reg [
    ⟨some 52, none, .bin .add (.tmp 42) (.const (.int .i64 1))⟩,
    ⟨some 42, none, .mov (.tmp 52)⟩]))))))) (.reg [
    ⟨some 53, none, .faddr 4 (.tmp 3)⟩,
    ⟨some 54, none, .load true 1 (.tmp 53)⟩,
    ⟨some 55, none, .load false 8 (.tmp 8)⟩,
    ⟨some 56, none, .bslice true 1 8 [.int .i64 0, .int .i64 0, .int .i64 0, .int .i64 0, .int .i64 0, .int .i64 0, .int .i64 0, .slice none 0 0] [(0, 8, .tmp 55)]⟩,
    ⟨some 57, none, .app 8 80 [.int .i64 0, .int .i64 0, .int .i64 0, .int .i64 0, .int .i64 0, .int .i64 0, .int .i64 0, .slice none 0 0] (.tmp 54) (.tmp 56)⟩,
    ⟨some 58, none, .faddr 4 (.tmp 3)⟩,
    ⟨none, none, .store 1 (.tmp 58) (.tmp 57)⟩])))))) (.reg [
    ⟨some 59, none, .bin .add (.tmp 33) (.const (.int .i64 1))⟩,
    ⟨some 33, none, .mov (.tmp 59)⟩]))))))) (.seq (.reg [
    ⟨some 60, none, .faddr 8 (.tmp 3)⟩,
    ⟨none, none, .store 1 (.tmp 60) (.const (.slice none 0 0))⟩]) (.seq (.seq (.reg [
    ⟨some 61, none, .faddr 8 (.tmp 1)⟩,
    ⟨some 62, none, .load true 1 (.tmp 61)⟩,
    ⟨some 63, none, .lenS (.tmp 62)⟩,
    ⟨some 64, none, .mov (.const (.int .i64 0))⟩]) (.block 6 (.loop (.seq (.reg [
    ⟨some 65, none, .bin .lss (.tmp 64) (.tmp 63)⟩]) (.seq (.cond (.tmp 65) (.skip) (.exit 6)) (.seq (.block 7 (.seq (.reg [
    ⟨some 66, none, .iaddr 1 (.tmp 62) (.tmp 64)⟩,
    ⟨some 67, none, .load true 1 (.tmp 66)⟩,
    ⟨some 12, none, .mov (.tmp 67)⟩]) (.reg [
    ⟨some 68, none, .faddr 8 (.tmp 3)⟩,
    ⟨some 69, none, .load true 1 (.tmp 68)⟩,
    ⟨some 70, none, .mov (.tmp 12)⟩,
    ⟨some 71, none, .bslice true 1 1 [.int .i64 0] [(0, 1, .tmp 70)]⟩,
    ⟨some 72, none, .app 1 8 [.int .i64 0] (.tmp 69) (.tmp 71)⟩,
    ⟨some 73, none, .faddr 8 (.tmp 3)⟩,
    ⟨none, none, .store 1 (.tmp 73) (.tmp 72)⟩]))) (.reg [
    ⟨some 74, none, .bin .add (.tmp 64) (.const (.int .i64 1))⟩,
    ⟨some 64, none, .mov (.tmp 74)⟩]))))))) (.seq (.reg [
    ⟨some 2, none, .mov (.tmp 3)⟩]) (.ret)))))))))
theorem t117 : Try.f117.body.bind (trC e117) = some c117 := by kernel_rfl
theorem r117 : Try.f117.results.toList.mapM (trR Try.prog) = some [.tmp 2] := by kernel_rfl
theorem fn117 {args : List Value} {M : Mem} {post : Value → Mem → Prop} (hl : args.length ≤ 75) (h : VC e117 c117 (fnQ [.tmp 2] post) (initS args 75) M) : Fn Try.prog 117 args M post :=
  Fn.of' (E := e117) Try.func117 t117 rfl r117 mixed hl h
noncomputable def e154 : Env := ⟨Try.prog, [], 15, []⟩
noncomputable def c154 : C :=
  .seq (.reg [
    ⟨some 2, none, .mov (.const (.bool false))⟩]) (.seq (.reg [
    ⟨some 3, none, .mov (.tmp 0)⟩,
    ⟨some 4, none, .nilCheck (.tmp 3)⟩,
    ⟨some 5, none, .faddr 5 (.tmp 4)⟩,
    ⟨some 6, none, .load true 1 (.tmp 5)⟩,
    ⟨some 7, none, .bin .eql (.tmp 6) (.const (.int .i64 1))⟩,
    ⟨some 8, none, .mov (.tmp 7)⟩,
    ⟨some 9, some (8, false), .mov (.tmp 0)⟩,
    ⟨some 10, some (8, false), .nilCheck (.tmp 9)⟩,
    ⟨some 11, some (8, false), .faddr 5 (.tmp 10)⟩,
    ⟨some 12, some (8, false), .load true 1 (.tmp 11)⟩,
    ⟨some 13, some (8, false), .bin .eql (.tmp 12) (.const (.int .i64 2))⟩,
    ⟨some 14, none, .pick (.tmp 8) (.const (.bool true)) (.tmp 13)⟩,
    ⟨some 2, none, .mov (.tmp 14)⟩]) (.ret))
theorem t154 : Try.f154.body.bind (trC e154) = some c154 := by kernel_rfl
theorem r154 : Try.f154.results.toList.mapM (trR Try.prog) = some [.tmp 2] := by kernel_rfl
theorem fn154 {args : List Value} {M : Mem} {post : Value → Mem → Prop} (hl : args.length ≤ 15) (h : VC e154 c154 (fnQ [.tmp 2] post) (initS args 15) M) : Fn Try.prog 154 args M post :=
  Fn.of' (E := e154) Try.func154 t154 rfl r154 mixed hl h
noncomputable def e118 : Env := ⟨Try.prog, [3, 40], 44, [(1, 20), (3, 8), (4, 8)]⟩
noncomputable def c118 : C :=
  .seq (.reg [
    ⟨some 3, none, .box true (.tmp 1)⟩,
    ⟨some 4, none, .mov (.const (.bool false))⟩]) (.seq (.seq (.dreg 20 [
    ⟨some 5, none, .mov (.tmp 0)⟩,
    ⟨some 6, none, .qcall 154 [.tmp 5]⟩,
    ⟨some 7, none, .not (.tmp 6)⟩,
    ⟨some 8, none, .mov (.tmp 7)⟩,
    ⟨some 9, some (8, false), .faddr 0 (.tmp 3)⟩,
    ⟨some 10, some (8, false), .load true 1 (.tmp 9)⟩,
    ⟨some 11, some (8, false), .bin .neq (.tmp 10) (.const (.int .i64 2))⟩,
    ⟨some 12, none, .pick (.tmp 8) (.const (.bool true)) (.tmp 11)⟩,
    ⟨some 13, none, .mov (.tmp 12)⟩,
    ⟨some 14, some (13, false), .mov (.tmp 0)⟩,
    ⟨some 15, some (13, false), .nilCheck (.tmp 14)⟩,
    ⟨some 16, some (13, false), .faddr 4 (.tmp 15)⟩,
    ⟨some 17, some (13, false), .load true 1 (.tmp 16)⟩,
    ⟨some 18, some (13, false), .faddr 2 (.tmp 3)⟩,
    ⟨some 19, some (13, false), .load true 1 (.tmp 18)⟩,
    ⟨some 20, some (13, false), .iaddr 8 (.tmp 17) (.tmp 19)⟩,
    ⟨some 21, some (13, false), .faddr 5 (.tmp 20)⟩,
    ⟨some 22, some (13, false), .load true 1 (.tmp 21)⟩,
    ⟨some 23, some (13, false), .bin .neq (.tmp 22) (.const (.int .i64 0))⟩,
    ⟨some 24, none, .pick (.tmp 13) (.const (.bool true)) (.tmp 23)⟩]) (.cond (.tmp 24) (.seq (.reg [
    ⟨some 4, none, .mov (.const (.bool false))⟩]) (.ret)) (.skip))) (.seq (.dreg 8 [
    ⟨some 25, none, .mov (.tmp 0)⟩,
    ⟨some 26, none, .nilCheck (.tmp 25)⟩,
    ⟨some 27, none, .faddr 4 (.tmp 26)⟩,
    ⟨some 28, none, .load true 1 (.tmp 27)⟩,
    ⟨some 29, none, .faddr 2 (.tmp 3)⟩,
    ⟨some 30, none, .load true 1 (.tmp 29)⟩,
    ⟨some 31, none, .iaddr 8 (.tmp 28) (.tmp 30)⟩,
    ⟨some 32, none, .faddr 5 (.tmp 31)⟩,
    ⟨none, none, .store 1 (.tmp 32) (.const (.int .i64 1))⟩]) (.seq (.dreg 8 [
    ⟨some 33, none, .mov (.tmp 0)⟩,
    ⟨some 34, none, .mov (.tmp 0)⟩,
    ⟨some 35, none, .nilCheck (.tmp 34)⟩,
    ⟨some 36, none, .faddr 8 (.tmp 35)⟩,
    ⟨some 37, none, .load true 1 (.tmp 36)⟩,
    ⟨some 38, none, .faddr 2 (.tmp 3)⟩,
    ⟨some 39, none, .load true 1 (.tmp 38)⟩,
    ⟨some 40, none, .bslice true 1 1 [.int .i64 0] [(0, 1, .tmp 39)]⟩,
    ⟨some 41, none, .app 1 8 [.int .i64 0] (.tmp 37) (.tmp 40)⟩,
    ⟨some 42, none, .nilCheck (.tmp 33)⟩,
    ⟨some 43, none, .faddr 8 (.tmp 42)⟩,
    ⟨none, none, .store 1 (.tmp 43) (.tmp 41)⟩]) (.seq (.reg [
    ⟨some 4, none, .mov (.const (.bool true))⟩]) (.ret)))))
theorem t118 : Try.f118.body.bind (trC e118) = some c118 := by kernel_rfl
theorem r118 : Try.f118.results.toList.mapM (trR Try.prog) = some [.tmp 4] := by kernel_rfl
theorem fn118 {args : List Value} {M : Mem} {post : Value → Mem → Prop} (hl : args.length ≤ 44) (h : VC e118 c118 (fnQ [.tmp 4] post) (initS args 44) M) : Fn Try.prog 118 args M post :=
  Fn.of' (E := e118) Try.func118 t118 rfl r118 mixed hl h
noncomputable def e175 : Env := ⟨Try.prog, [], 17, []⟩
noncomputable def c175 : C :=
  .seq (.reg [
    ⟨some 6, none, .mov (.tmp 0)⟩,
    ⟨some 7, none, .mov (.tmp 1)⟩,
    ⟨some 8, none, .nilCheck (.tmp 6)⟩,
    ⟨some 9, none, .faddr 5 (.tmp 8)⟩,
    ⟨none, none, .store 1 (.tmp 9) (.tmp 7)⟩]) (.seq (.reg [
    ⟨some 10, none, .mov (.tmp 0)⟩,
    ⟨some 11, none, .mov (.tmp 2)⟩,
    ⟨some 12, none, .nilCheck (.tmp 10)⟩,
    ⟨some 13, none, .faddr 6 (.tmp 12)⟩,
    ⟨none, none, .store 1 (.tmp 13) (.tmp 11)⟩]) (.reg [
    ⟨some 14, none, .mov (.tmp 0)⟩,
    ⟨some 15, none, .nilCheck (.tmp 14)⟩,
    ⟨some 16, none, .faddr 7 (.tmp 15)⟩,
    ⟨none, none, .store 1 (.tmp 16) (.const (.int .i64 0))⟩]))
theorem t175 : Try.f175.body.bind (trC e175) = some c175 := by kernel_rfl
theorem r175 : Try.f175.results.toList.mapM (trR Try.prog) = some [] := by kernel_rfl
theorem fn175 {args : List Value} {M : Mem} {post : Value → Mem → Prop} (hl : args.length ≤ 17) (h : VC e175 c175 (fnQ [] post) (initS args 17) M) : Fn Try.prog 175 args M post :=
  Fn.of' (E := e175) Try.func175 t175 rfl r175 mixed hl h
noncomputable def e161 : Env := ⟨Try.prog, [], 4, []⟩
noncomputable def c161 : C :=
  .reg [
    ⟨some 2, none, .mov (.tmp 0)⟩,
    ⟨some 3, none, .call 175 [.tmp 2, .const (.int .i64 1), .const (.int .i64 0)]⟩]
theorem t161 : Try.f161.body.bind (trC e161) = some c161 := by kernel_rfl
theorem r161 : Try.f161.results.toList.mapM (trR Try.prog) = some [] := by kernel_rfl
theorem fn161 {args : List Value} {M : Mem} {post : Value → Mem → Prop} (hl : args.length ≤ 4) (h : VC e161 c161 (fnQ [] post) (initS args 4) M) : Fn Try.prog 161 args M post :=
  Fn.of' (E := e161) Try.func161 t161 rfl r161 mixed hl h
noncomputable def e155 : Env := ⟨Try.prog, [], 30, []⟩
noncomputable def c155 : C :=
  .seq (.reg [
    ⟨some 2, none, .mov (.tmp 0)⟩,
    ⟨some 3, none, .nilCheck (.tmp 2)⟩,
    ⟨some 4, none, .faddr 5 (.tmp 3)⟩,
    ⟨some 5, none, .load true 1 (.tmp 4)⟩]) (.block 0 (.seq (.reg [
    ⟨some 7, none, .bin .eql (.tmp 5) (.const (.int .i64 1))⟩,
    ⟨some 6, none, .mov (.tmp 7)⟩]) (.cond (.tmp 6) (.reg [
    ⟨some 8, none, .mov (.tmp 0)⟩,
    ⟨some 9, none, .call 166 [.tmp 8]⟩]) (.seq (.reg [
    ⟨some 11, none, .bin .eql (.tmp 5) (.const (.int .i64 2))⟩,
    ⟨some 10, none, .mov (.tmp 11)⟩]) (.cond (.tmp 10) (.reg [
    ⟨some 12, none, .mov (.tmp 0)⟩,
    ⟨some 13, none, .call 167 [.tmp 12]⟩]) (.seq (.reg [
    ⟨some 15, none, .bin .eql (.tmp 5) (.const (.int .i64 3))⟩,
    ⟨some 14, none, .mov (.tmp 15)⟩]) (.cond (.tmp 14) (.reg [
    ⟨some 16, none, .mov (.tmp 0)⟩,
    ⟨some 17, none, .call 168 [.tmp 16]⟩]) (.seq (.reg [
    ⟨some 19, none, .bin .eql (.tmp 5) (.const (.int .i64 4))⟩,
    ⟨some 18, none, .mov (.tmp 19)⟩]) (.cond (.tmp 18) (.reg [
    ⟨some 20, none, .mov (.tmp 0)⟩,
    ⟨some 21, none, .call 169 [.tmp 20]⟩]) (.seq (.reg [
    ⟨some 23, none, .bin .eql (.tmp 5) (.const (.int .i64 5))⟩,
    ⟨some 22, none, .mov (.tmp 23)⟩]) (.cond (.tmp 22) (.reg [
    ⟨some 24, none, .mov (.tmp 0)⟩,
    ⟨some 25, none, .call 170 [.tmp 24]⟩]) (.seq (.reg [
    ⟨some 27, none, .bin .eql (.tmp 5) (.const (.int .i64 6))⟩,
    ⟨some 26, none, .mov (.tmp 27)⟩]) (.cond (.tmp 26) (.reg [
    ⟨some 28, none, .mov (.tmp 0)⟩,
    ⟨some 29, none, .call 171 [.tmp 28]⟩]) (.skip))))))))))))))
theorem t155 : Try.f155.body.bind (trC e155) = some c155 := by kernel_rfl
theorem r155 : Try.f155.results.toList.mapM (trR Try.prog) = some [] := by kernel_rfl
theorem fn155 {args : List Value} {M : Mem} {post : Value → Mem → Prop} (hl : args.length ≤ 30) (h : VC e155 c155 (fnQ [] post) (initS args 30) M) : Fn Try.prog 155 args M post :=
  Fn.of' (E := e155) Try.func155 t155 rfl r155 mixed hl h
noncomputable def e166 : Env := ⟨Try.prog, [2], 47, [(0, 10), (2, 11)]⟩
noncomputable def c166 : C :=
  .seq (.seq (.dreg 10 [
    ⟨some 3, none, .mov (.tmp 0)⟩,
    ⟨some 4, none, .nilCheck (.tmp 3)⟩,
    ⟨some 5, none, .faddr 6 (.tmp 4)⟩,
    ⟨some 6, none, .load true 1 (.tmp 5)⟩,
    ⟨some 7, none, .mov (.tmp 0)⟩,
    ⟨some 8, none, .nilCheck (.tmp 7)⟩,
    ⟨some 9, none, .faddr 4 (.tmp 8)⟩,
    ⟨some 10, none, .load true 1 (.tmp 9)⟩,
    ⟨some 11, none, .lenS (.tmp 10)⟩,
    ⟨some 12, none, .bin .eql (.tmp 6) (.tmp 11)⟩]) (.cond (.tmp 12) (.seq (.reg [
    ⟨some 13, none, .mov (.tmp 0)⟩,
    ⟨some 14, none, .call 175 [.tmp 13, .const (.int .i64 2), .const (.int .i64 0)]⟩]) (.ret)) (.skip))) (.seq (.dreg 11 [
    ⟨some 15, none, .mov (.tmp 0)⟩,
    ⟨some 16, none, .nilCheck (.tmp 15)⟩,
    ⟨some 17, none, .faddr 4 (.tmp 16)⟩,
    ⟨some 18, none, .load true 1 (.tmp 17)⟩,
    ⟨some 19, none, .mov (.tmp 0)⟩,
    ⟨some 20, none, .nilCheck (.tmp 19)⟩,
    ⟨some 21, none, .faddr 6 (.tmp 20)⟩,
    ⟨some 22, none, .load true 1 (.tmp 21)⟩,
    ⟨some 23, none, .iaddr 8 (.tmp 18) (.tmp 22)⟩,
    ⟨some 24, none, .load false 8 (.tmp 23)⟩,
    ⟨some 2, none, .alloc true [.int .i64 0, .int .i64 0, .int .i64 0, .int .i64 0, .int .i64 0, .int .i64 0, .int .i64 0, .slice none 0 0]⟩,
    ⟨none, none, .store 8 (.tmp 2) (.tmp 24)⟩]) (.seq (.seq (.reg [
    ⟨some 25, none, .faddr 3 (.tmp 2)⟩,
    ⟨some 26, none, .load true 1 (.tmp 25)⟩,
    ⟨some 27, none, .bin .eql (.tmp 26) (.const (.int .i64 1))⟩,
    ⟨some 28, none, .mov (.tmp 27)⟩,
    ⟨some 29, some (28, false), .faddr 3 (.tmp 2)⟩,
    ⟨some 30, some (28, false), .load true 1 (.tmp 29)⟩,
    ⟨some 31, some (28, false), .bin .eql (.tmp 30) (.const (.int .i64 2))⟩,
    ⟨some 32, none, .pick (.tmp 28) (.const (.bool true)) (.tmp 31)⟩]) (.cond (.tmp 32) (.reg [
    ⟨some 33, none, .mov (.tmp 0)⟩,
    ⟨some 34, none, .mov (.tmp 0)⟩,
    ⟨some 35, none, .nilCheck (.tmp 34)⟩,
    ⟨some 36, none, .faddr 6 (.tmp 35)⟩,
    ⟨some 37, none, .load true 1 (.tmp 36)⟩,
    ⟨some 38, none, .build [.int .i64 0, .int .i64 0, .int .i64 0] [(0, 1, .const (.int .i64 2)), (2, 1, .tmp 37)]⟩,
    ⟨some 39, none, .call 118 [.tmp 33, .tmp 38]⟩]) (.skip))) (.reg [
    ⟨some 40, none, .mov (.tmp 0)⟩,
    ⟨some 41, none, .nilCheck (.tmp 40)⟩,
    ⟨some 42, none, .faddr 6 (.tmp 41)⟩,
    ⟨some 43, none, .load true 1 (.tmp 42)⟩,
    ⟨some 44, none, .bin .add (.tmp 43) (.const (.int .i64 1))⟩,
    ⟨some 45, none, .nilCheck (.tmp 40)⟩,
    ⟨some 46, none, .faddr 6 (.tmp 45)⟩,
    ⟨none, none, .store 1 (.tmp 46) (.tmp 44)⟩])))
theorem t166 : Try.f166.body.bind (trC e166) = some c166 := by kernel_rfl
theorem r166 : Try.f166.results.toList.mapM (trR Try.prog) = some [] := by kernel_rfl
theorem fn166 {args : List Value} {M : Mem} {post : Value → Mem → Prop} (hl : args.length ≤ 47) (h : VC e166 c166 (fnQ [] post) (initS args 47) M) : Fn Try.prog 166 args M post :=
  Fn.of' (E := e166) Try.func166 t166 rfl r166 mixed hl h
noncomputable def e167 : Env := ⟨Try.prog, [3, 6], 97, [(2, 14), (3, 15)]⟩
noncomputable def c167 : C :=
  .seq (.seq (.reg [
    ⟨some 7, none, .mov (.tmp 0)⟩,
    ⟨some 8, none, .nilCheck (.tmp 7)⟩,
    ⟨some 9, none, .faddr 8 (.tmp 8)⟩,
    ⟨some 10, none, .load true 1 (.tmp 9)⟩,
    ⟨some 11, none, .lenS (.tmp 10)⟩,
    ⟨some 12, none, .bin .gtr (.tmp 11) (.const (.int .i64 0))⟩]) (.cond (.tmp 12) (.seq (.reg [
    ⟨some 13, none, .mov (.tmp 0)⟩,
    ⟨some 14, none, .nilCheck (.tmp 13)⟩,
    ⟨some 15, none, .faddr 8 (.tmp 14)⟩,
    ⟨some 16, none, .load true 1 (.tmp 15)⟩,
    ⟨some 17, none, .iaddr 1 (.tmp 16) (.const (.int .i64 0))⟩,
    ⟨some 18, none, .load true 1 (.tmp 17)⟩,
    ⟨some 2, none, .mov (.tmp 18)⟩]) (.seq (.seq (.dreg 14 [
    ⟨some 19, none, .mov (.tmp 0)⟩,
    ⟨some 20, none, .nilCheck (.tmp 19)⟩,
    ⟨some 21, none, .faddr 7 (.tmp 20)⟩,
    ⟨some 22, none, .load true 1 (.tmp 21)⟩,
    ⟨some 23, none, .mov (.tmp 0)⟩,
    ⟨some 24, none, .nilCheck (.tmp 23)⟩,
    ⟨some 25, none, .faddr 4 (.tmp 24)⟩,
    ⟨some 26, none, .load true 1 (.tmp 25)⟩,
    ⟨some 27, none, .mov (.tmp 2)⟩,
    ⟨some 28, none, .iaddr 8 (.tmp 26) (.tmp 27)⟩,
    ⟨some 29, none, .faddr 7 (.tmp 28)⟩,
    ⟨some 30, none, .load true 1 (.tmp 29)⟩,
    ⟨some 31, none, .lenS (.tmp 30)⟩,
    ⟨some 32, none, .bin .lss (.tmp 22) (.tmp 31)⟩]) (.cond (.tmp 32) (.seq (.dreg 15 [
    ⟨some 33, none, .mov (.tmp 0)⟩,
    ⟨some 34, none, .nilCheck (.tmp 33)⟩,
    ⟨some 35, none, .faddr 4 (.tmp 34)⟩,
    ⟨some 36, none, .load true 1 (.tmp 35)⟩,
    ⟨some 37, none, .mov (.tmp 2)⟩,
    ⟨some 38, none, .iaddr 8 (.tmp 36) (.tmp 37)⟩,
    ⟨some 39, none, .faddr 7 (.tmp 38)⟩,
    ⟨some 40, none, .load true 1 (.tmp 39)⟩,
    ⟨some 41, none, .mov (.tmp 0)⟩,
    ⟨some 42, none, .nilCheck (.tmp 41)⟩,
    ⟨some 43, none, .faddr 7 (.tmp 42)⟩,
    ⟨some 44, none, .load true 1 (.tmp 43)⟩,
    ⟨some 45, none, .iaddr 6 (.tmp 40) (.tmp 44)⟩,
    ⟨some 46, none, .load false 6 (.tmp 45)⟩,
    ⟨some 3, none, .alloc true [.int .i64 0, .int .i64 0, .int .i64 0, .int .i64 0, .int .i64 0, .int .i64 0]⟩,
    ⟨none, none, .store 6 (.tmp 3) (.tmp 46)⟩]) (.seq (.reg [
    ⟨some 47, none, .mov (.tmp 0)⟩,
    ⟨some 48, none, .nilCheck (.tmp 47)⟩,
    ⟨some 49, none, .faddr 7 (.tmp 48)⟩,
    ⟨some 50, none, .load true 1 (.tmp 49)⟩,
    ⟨some 51, none, .bin .add (.tmp 50) (.const (.int .i64 1))⟩,
    ⟨some 52, none, .nilCheck (.tmp 47)⟩,
    ⟨some 53, none, .faddr 7 (.tmp 52)⟩,
    ⟨none, none, .store 1 (.tmp 53) (.tmp 51)⟩]) (.seq (.reg [
    ⟨some 54, none, .mov (.tmp 0)⟩,
    ⟨some 55, none, .faddr 0 (.tmp 3)⟩,
    ⟨some 56, none, .load false 3 (.tmp 55)⟩,
    ⟨some 57, none, .call 118 [.tmp 54, .tmp 56]⟩]) (.seq (.reg [
    ⟨some 58, none, .mov (.tmp 0)⟩,
    ⟨some 59, none, .faddr 3 (.tmp 3)⟩,
    ⟨some 60, none, .load false 3 (.tmp 59)⟩,
    ⟨some 61, none, .call 118 [.tmp 58, .tmp 60]⟩]) (.ret))))) (.skip))) (.seq (.reg [
    ⟨some 62, none, .mov (.tmp 0)⟩,
    ⟨some 63, none, .nilCheck (.tmp 62)⟩,
    ⟨some 64, none, .faddr 4 (.tmp 63)⟩,
    ⟨some 65, none, .load true 1 (.tmp 64)⟩,
    ⟨some 66, none, .mov (.tmp 2)⟩,
    ⟨some 67, none, .iaddr 8 (.tmp 65) (.tmp 66)⟩,
    ⟨some 68, none, .faddr 5 (.tmp 67)⟩,
    ⟨none, none, .store 1 (.tmp 68) (.const (.int .i64 2))⟩]) (.seq (.reg [
    ⟨some 69, none, .mov (.tmp 0)⟩,
    ⟨some 70, none, .mov (.tmp 0)⟩,
    ⟨some 71, none, .nilCheck (.tmp 70)⟩,
    ⟨some 72, none, .faddr 8 (.tmp 71)⟩,
    ⟨some 73, none, .load true 1 (.tmp 72)⟩,
    ⟨some 74, none, .slc 1 (.tmp 73) (some (.const (.int .i64 1))) none⟩,
    ⟨some 75, none, .nilCheck (.tmp 69)⟩,
    ⟨some 76, none, .faddr 8 (.tmp 75)⟩,
    ⟨none, none, .store 1 (.tmp 76) (.tmp 74)⟩]) (.seq (.reg [
    ⟨some 77, none, .mov (.tmp 0)⟩,
    ⟨some 78, none, .nilCheck (.tmp 77)⟩,
    ⟨some 79, none, .faddr 7 (.tmp 78)⟩,
    ⟨none, none, .store 1 (.tmp 79) (.const (.int .i64 0))⟩]) (.ret)))))) (.skip))) (.seq (.reg [
    ⟨some 4, none, .mov (.const (.bool false))⟩]) (.seq (.seq (.reg [
    ⟨some 80, none, .mov (.tmp 0)⟩,
    ⟨some 81, none, .nilCheck (.tmp 80)⟩,
    ⟨some 82, none, .faddr 3 (.tmp 81)⟩,
    ⟨some 83, none, .load true 1 (.tmp 82)⟩,
    ⟨some 84, none, .lenS (.tmp 83)⟩,
    ⟨some 85, none, .mov (.const (.int .i64 0))⟩]) (.block 0 (.loop (.seq (.reg [
    ⟨some 86, none, .bin .lss (.tmp 85) (.tmp 84)⟩]) (.seq (.cond (.tmp 86) (.skip) (.exit 0)) (.seq (.block 1 (.seq (.reg [
    ⟨some 87, none, .iaddr 3 (.tmp 83) (.tmp 85)⟩,
    ⟨some 88, none, .load false 3 (.tmp 87)⟩,
    ⟨some 6, none, .alloc true [.int .i64 0, .int .i64 0, .int .i64 0]⟩,
    ⟨none, none, .store 3 (.tmp 6) (.tmp 88)⟩]) (.seq (.reg [
    ⟨some 89, none, .mov (.tmp 0)⟩,
    ⟨some 90, none, .load false 3 (.tmp 6)⟩,
    ⟨some 91, none, .call 118 [.tmp 89, .tmp 90]⟩]) (.cond (.tmp 91) (.reg [
    ⟨some 4, none, .mov (.const (.bool true))⟩]) (.skip))))) (.reg [
    ⟨some 92, none, .bin .add (.tmp 85) (.const (.int .i64 1))⟩,
    ⟨some 85, none, .mov (.tmp 92)⟩]))))))) (.seq (.reg [
    ⟨some 93, none, .mov (.tmp 4)⟩,
    ⟨some 94, none, .not (.tmp 93)⟩]) (.cond (.tmp 94) (.reg [
    ⟨some 95, none, .mov (.tmp 0)⟩,
    ⟨some 96, none, .call 175 [.tmp 95, .const (.int .i64 3), .const (.int .i64 0)]⟩]) (.skip)))))
theorem t167 : Try.f167.body.bind (trC e167) = some c167 := by kernel_rfl
theorem r167 : Try.f167.results.toList.mapM (trR Try.prog) = some [] := by kernel_rfl
theorem fn167 {args : List Value} {M : Mem} {post : Value → Mem → Prop} (hl : args.length ≤ 97) (h : VC e167 c167 (fnQ [] post) (initS args 97) M) : Fn Try.prog 167 args M post :=
  Fn.of' (E := e167) Try.func167 t167 rfl r167 mixed hl h
noncomputable def e168 : Env := ⟨Try.prog, [2], 71, [(0, 10), (2, 11), (4, 11), (5, 10), (6, 10)]⟩
noncomputable def c168 : C :=
  .seq (.seq (.dreg 10 [
    ⟨some 3, none, .mov (.tmp 0)⟩,
    ⟨some 4, none, .nilCheck (.tmp 3)⟩,
    ⟨some 5, none, .faddr 6 (.tmp 4)⟩,
    ⟨some 6, none, .load true 1 (.tmp 5)⟩,
    ⟨some 7, none, .mov (.tmp 0)⟩,
    ⟨some 8, none, .nilCheck (.tmp 7)⟩,
    ⟨some 9, none, .faddr 4 (.tmp 8)⟩,
    ⟨some 10, none, .load true 1 (.tmp 9)⟩,
    ⟨some 11, none, .lenS (.tmp 10)⟩,
    ⟨some 12, none, .bin .eql (.tmp 6) (.tmp 11)⟩]) (.cond (.tmp 12) (.seq (.reg [
    ⟨some 13, none, .mov (.tmp 0)⟩,
    ⟨some 14, none, .call 175 [.tmp 13, .const (.int .i64 4), .const (.int .i64 0)]⟩]) (.ret)) (.skip))) (.seq (.dreg 11 [
    ⟨some 15, none, .mov (.tmp 0)⟩,
    ⟨some 16, none, .nilCheck (.tmp 15)⟩,
    ⟨some 17, none, .faddr 4 (.tmp 16)⟩,
    ⟨some 18, none, .load true 1 (.tmp 17)⟩,
    ⟨some 19, none, .mov (.tmp 0)⟩,
    ⟨some 20, none, .nilCheck (.tmp 19)⟩,
    ⟨some 21, none, .faddr 6 (.tmp 20)⟩,
    ⟨some 22, none, .load true 1 (.tmp 21)⟩,
    ⟨some 23, none, .iaddr 8 (.tmp 18) (.tmp 22)⟩,
    ⟨some 24, none, .load false 8 (.tmp 23)⟩,
    ⟨some 2, none, .alloc true [.int .i64 0, .int .i64 0, .int .i64 0, .int .i64 0, .int .i64 0, .int .i64 0, .int .i64 0, .slice none 0 0]⟩,
    ⟨none, none, .store 8 (.tmp 2) (.tmp 24)⟩]) (.seq (.seq (.reg [
    ⟨some 25, none, .faddr 0 (.tmp 2)⟩,
    ⟨some 26, none, .load true 1 (.tmp 25)⟩,
    ⟨some 27, none, .bin .eql (.tmp 26) (.const (.int .i64 1))⟩,
    ⟨some 28, none, .mov (.tmp 27)⟩,
    ⟨some 29, some (28, true), .faddr 5 (.tmp 2)⟩,
    ⟨some 30, some (28, true), .load true 1 (.tmp 29)⟩,
    ⟨some 31, some (28, true), .bin .eql (.tmp 30) (.const (.int .i64 0))⟩,
    ⟨some 32, none, .pick (.tmp 28) (.tmp 31) (.const (.bool false))⟩]) (.cond (.tmp 32) (.seq (.dreg 11 [
    ⟨some 33, none, .mov (.tmp 0)⟩,
    ⟨some 34, none, .nilCheck (.tmp 33)⟩,
    ⟨some 35, none, .faddr 1 (.tmp 34)⟩,
    ⟨some 36, none, .load true 1 (.tmp 35)⟩,
    ⟨some 37, none, .faddr 7 (.tmp 2)⟩,
    ⟨some 38, none, .load true 1 (.tmp 37)⟩,
    ⟨some 39, none, .lenS (.tmp 38)⟩,
    ⟨some 40, none, .bin .add (.const (.int .i64 1)) (.tmp 39)⟩,
    ⟨some 41, none, .bin .sub (.tmp 36) (.tmp 40)⟩,
    ⟨some 42, none, .nilCheck (.tmp 33)⟩,
    ⟨some 43, none, .faddr 1 (.tmp 42)⟩,
    ⟨none, none, .store 1 (.tmp 43) (.tmp 41)⟩]) (.dreg 10 [
    ⟨some 44, none, .mov (.tmp 0)⟩,
    ⟨some 45, none, .nilCheck (.tmp 44)⟩,
    ⟨some 46, none, .faddr 4 (.tmp 45)⟩,
    ⟨some 47, none, .load true 1 (.tmp 46)⟩,
    ⟨some 48, none, .mov (.tmp 0)⟩,
    ⟨some 49, none, .nilCheck (.tmp 48)⟩,
    ⟨some 50, none, .faddr 6 (.tmp 49)⟩,
    ⟨some 51, none, .load true 1 (.tmp 50)⟩,
    ⟨some 52, none, .build [.int .i64 0, .int .i64 0, .int .i64 0, .int .i64 0, .int .i64 0, .int .i64 0, .int .i64 0, .slice none 0 0] []⟩,
    ⟨some 53, none, .iaddr 8 (.tmp 47) (.tmp 51)⟩,
    ⟨none, none, .store 8 (.tmp 53) (.tmp 52)⟩])) (.dreg 10 [
    ⟨some 54, none, .mov (.tmp 0)⟩,
    ⟨some 55, none, .nilCheck (.tmp 54)⟩,
    ⟨some 56, none, .faddr 4 (.tmp 55)⟩,
    ⟨some 57, none, .load true 1 (.tmp 56)⟩,
    ⟨some 58, none, .mov (.tmp 0)⟩,
    ⟨some 59, none, .nilCheck (.tmp 58)⟩,
    ⟨some 60, none, .faddr 6 (.tmp 59)⟩,
    ⟨some 61, none, .load true 1 (.tmp 60)⟩,
    ⟨some 62, none, .iaddr 8 (.tmp 57) (.tmp 61)⟩,
    ⟨some 63, none, .faddr 5 (.tmp 62)⟩,
    ⟨none, none, .store 1 (.tmp 63) (.const (.int .i64 0))⟩]))) (.reg [
    ⟨some 64, none, .mov (.tmp 0)⟩,
    ⟨some 65, none, .nilCheck (.tmp 64)⟩,
    ⟨some 66, none, .faddr 6 (.tmp 65)⟩,
    ⟨some 67, none, .load true 1 (.tmp 66)⟩,
    ⟨some 68, none, .bin .add (.tmp 67) (.const (.int .i64 1))⟩,
    ⟨some 69, none, .nilCheck (.tmp 64)⟩,
    ⟨some 70, none, .faddr 6 (.tmp 69)⟩,
    ⟨none, none, .store 1 (.tmp 70) (.tmp 68)⟩])))
theorem t168 : Try.f168.body.bind (trC e168) = some c168 := by kernel_rfl
theorem r168 : Try.f168.results.toList.mapM (trR Try.prog) = some [] := by kernel_rfl
theorem fn168 {args : List Value} {M : Mem} {post : Value → Mem → Prop} (hl : args.length ≤ 71) (h : VC e168 c168 (fnQ [] post) (initS args 71) M) : Fn Try.prog 168 args M post :=
  Fn.of' (E := e168) Try.func168 t168 rfl r168 mixed hl h
noncomputable def e178 : Env := ⟨Try.prog, [4], 25, []⟩
noncomputable def c178 : C :=
  .seq (.reg [
    ⟨some 2, none, .mov (.const (.int .i64 0))⟩]) (.seq (.seq (.reg [
    ⟨some 5, none, .mov (.tmp 0)⟩,
    ⟨some 6, none, .nilCheck (.tmp 5)⟩,
    ⟨some 7, none, .faddr 4 (.tmp 6)⟩,
    ⟨some 8, none, .load true 1 (.tmp 7)⟩,
    ⟨some 9, none, .lenS (.tmp 8)⟩,
    ⟨some 10, none, .mov (.const (.int .i64 0))⟩]) (.block 0 (.loop (.seq (.reg [
    ⟨some 11, none, .bin .lss (.tmp 10) (.tmp 9)⟩]) (.seq (.cond (.tmp 11) (.skip) (.exit 0)) (.seq (.block 1 (.seq (.reg [
    ⟨some 12, none, .mov (.tmp 10)⟩,
    ⟨some 13, none, .iaddr 8 (.tmp 8) (.tmp 10)⟩,
    ⟨some 14, none, .load false 8 (.tmp 13)⟩,
    ⟨some 4, none, .alloc true [.int .i64 0, .int .i64 0, .int .i64 0, .int .i64 0, .int .i64 0, .int .i64 0, .int .i64 0, .slice none 0 0]⟩,
    ⟨some 3, none, .mov (.tmp 12)⟩,
    ⟨none, none, .store 8 (.tmp 4) (.tmp 14)⟩]) (.seq (.reg [
    ⟨some 15, none, .faddr 0 (.tmp 4)⟩,
    ⟨some 16, none, .load true 1 (.tmp 15)⟩,
    ⟨some 17, none, .bin .eql (.tmp 16) (.const (.int .i64 0))⟩]) (.cond (.tmp 17) (.seq (.reg [
    ⟨some 18, none, .mov (.tmp 3)⟩,
    ⟨some 2, none, .mov (.tmp 18)⟩]) (.ret)) (.skip))))) (.reg [
    ⟨some 19, none, .bin .add (.tmp 10) (.const (.int .i64 1))⟩,
    ⟨some 10, none, .mov (.tmp 19)⟩]))))))) (.seq (.reg [
    ⟨some 20, none, .mov (.tmp 0)⟩,
    ⟨some 21, none, .nilCheck (.tmp 20)⟩,
    ⟨some 22, none, .faddr 4 (.tmp 21)⟩,
    ⟨some 23, none, .load true 1 (.tmp 22)⟩,
    ⟨some 24, none, .lenS (.tmp 23)⟩,
    ⟨some 2, none, .mov (.tmp 24)⟩]) (.ret)))
theorem t178 : Try.f178.body.bind (trC e178) = some c178 := by kernel_rfl
theorem r178 : Try.f178.results.toList.mapM (trR Try.prog) = some [.tmp 2] := by kernel_rfl
theorem fn178 {args : List Value} {M : Mem} {post : Value → Mem → Prop} (hl : args.length ≤ 25) (h : VC e178 c178 (fnQ [.tmp 2] post) (initS args 25) M) : Fn Try.prog 178 args M post :=
  Fn.of' (E := e178) Try.func178 t178 rfl r178 mixed hl h
noncomputable def e169 : Env := ⟨Try.prog, [], 78, [(6, 13), (11, 15)]⟩
noncomputable def c169 : C :=
  .seq (.reg [
    ⟨some 5, none, .mov (.tmp 0)⟩,
    ⟨some 6, none, .call 178 [.tmp 5]⟩,
    ⟨some 2, none, .mov (.tmp 6)⟩]) (.seq (.reg [
    ⟨some 7, none, .mov (.tmp 0)⟩,
    ⟨some 8, none, .nilCheck (.tmp 7)⟩,
    ⟨some 9, none, .faddr 4 (.tmp 8)⟩,
    ⟨some 10, none, .load true 1 (.tmp 9)⟩,
    ⟨some 11, none, .lenS (.tmp 10)⟩,
    ⟨some 12, none, .bin .sub (.tmp 11) (.const (.int .i64 1))⟩,
    ⟨some 3, none, .mov (.tmp 12)⟩]) (.seq (.block 0 (.loop (.seq (.seq (.reg [
    ⟨some 13, none, .mov (.tmp 3)⟩,
    ⟨some 14, none, .bin .geq (.tmp 13) (.const (.int .i64 0))⟩,
    ⟨some 15, none, .mov (.tmp 14)⟩,
    ⟨some 16, some (15, true), .mov (.tmp 0)⟩,
    ⟨some 17, some (15, true), .nilCheck (.tmp 16)⟩,
    ⟨some 18, some (15, true), .faddr 4 (.tmp 17)⟩,
    ⟨some 19, some (15, true), .load true 1 (.tmp 18)⟩,
    ⟨some 20, some (15, true), .mov (.tmp 3)⟩,
    ⟨some 21, some (15, true), .iaddr 8 (.tmp 19) (.tmp 20)⟩,
    ⟨some 22, some (15, true), .faddr 0 (.tmp 21)⟩,
    ⟨some 23, some (15, true), .load true 1 (.tmp 22)⟩,
    ⟨some 24, some (15, true), .bin .neq (.tmp 23) (.const (.int .i64 1))⟩,
    ⟨some 25, none, .pick (.tmp 15) (.tmp 24) (.const (.bool false))⟩]) (.cond (.tmp 25) (.skip) (.exit 0))) (.block 1 (.reg [
    ⟨some 26, none, .mov (.tmp 3)⟩,
    ⟨some 27, none, .bin .sub (.tmp 26) (.const (.int .i64 1))⟩,
    ⟨some 3, none, .mov (.tmp 27)⟩]))))) (.seq (.seq (.reg [
    ⟨some 28, none, .mov (.tmp 2)⟩,
    ⟨some 29, none, .mov (.tmp 3)⟩,
    ⟨some 30, none, .bin .geq (.tmp 28) (.tmp 29)⟩]) (.cond (.tmp 30) (.seq (.reg [
    ⟨some 31, none, .mov (.tmp 0)⟩,
    ⟨some 32, none, .call 175 [.tmp 31, .const (.int .i64 5), .const (.int .i64 0)]⟩]) (.ret)) (.skip))) (.seq (.dreg 13 [
    ⟨some 33, none, .mov (.tmp 0)⟩,
    ⟨some 34, none, .nilCheck (.tmp 33)⟩,
    ⟨some 35, none, .faddr 4 (.tmp 34)⟩,
    ⟨some 36, none, .load true 1 (.tmp 35)⟩,
    ⟨some 37, none, .mov (.tmp 2)⟩,
    ⟨some 38, none, .mov (.tmp 0)⟩,
    ⟨some 39, none, .nilCheck (.tmp 38)⟩,
    ⟨some 40, none, .faddr 4 (.tmp 39)⟩,
    ⟨some 41, none, .load true 1 (.tmp 40)⟩,
    ⟨some 42, none, .mov (.tmp 3)⟩,
    ⟨some 43, none, .iaddr 8 (.tmp 41) (.tmp 42)⟩,
    ⟨some 44, none, .load false 8 (.tmp 43)⟩,
    ⟨some 45, none, .iaddr 8 (.tmp 36) (.tmp 37)⟩,
    ⟨none, none, .store 8 (.tmp 45) (.tmp 44)⟩]) (.seq (.reg [
    ⟨some 46, none, .mov (.tmp 0)⟩,
    ⟨some 47, none, .nilCheck (.tmp 46)⟩,
    ⟨some 48, none, .faddr 4 (.tmp 47)⟩,
    ⟨some 49, none, .load true 1 (.tmp 48)⟩,
    ⟨some 50, none, .mov (.tmp 3)⟩,
    ⟨some 51, none, .mov (.tmp 2)⟩,
    ⟨some 52, none, .build [.int .i64 0, .int .i64 0, .int .i64 0, .int .i64 0, .int .i64 0, .int .i64 0, .int .i64 0, .slice none 0 0] [(0, 1, .const (.int .i64 2)), (6, 1, .tmp 51)]⟩,
    ⟨some 53, none, .iaddr 8 (.tmp 49) (.tmp 50)⟩,
    ⟨none, none, .store 8 (.tmp 53) (.tmp 52)⟩]) (.seq (.reg [
    ⟨some 54, none, .mov (.tmp 0)⟩,
    ⟨some 55, none, .nilCheck (.tmp 54)⟩,
    ⟨some 56, none, .faddr 3 (.tmp 55)⟩,
    ⟨some 57, none, .load true 1 (.tmp 56)⟩,
    ⟨some 58, none, .lenS (.tmp 57)⟩,
    ⟨some 59, none, .mov (.const (.int .i64 0))⟩]) (.block 2 (.loop (.seq (.reg [
    ⟨some 60, none, .bin .lss (.tmp 59) (.tmp 58)⟩]) (.seq (.cond (.tmp 60) (.skip) (.exit 2)) (.seq (.block 3 (.seq (.reg [
    ⟨some 61, none, .mov (.tmp 59)⟩,
    ⟨some 4, none, .mov (.tmp 61)⟩]) (.dreg 15 [
    ⟨some 62, none, .mov (.tmp 0)⟩,
    ⟨some 63, none, .nilCheck (.tmp 62)⟩,
    ⟨some 64, none, .faddr 3 (.tmp 63)⟩,
    ⟨some 65, none, .load true 1 (.tmp 64)⟩,
    ⟨some 66, none, .mov (.tmp 4)⟩,
    ⟨some 67, none, .mov (.tmp 0)⟩,
    ⟨some 68, none, .mov (.tmp 0)⟩,
    ⟨some 69, none, .nilCheck (.tmp 68)⟩,
    ⟨some 70, none, .faddr 3 (.tmp 69)⟩,
    ⟨some 71, none, .load true 1 (.tmp 70)⟩,
    ⟨some 72, none, .mov (.tmp 4)⟩,
    ⟨some 73, none, .iaddr 3 (.tmp 71) (.tmp 72)⟩,
    ⟨some 74, none, .load false 3 (.tmp 73)⟩,
    ⟨some 75, none, .qcall 104 [.tmp 67, .tmp 74]⟩,
    ⟨some 76, none, .iaddr 3 (.tmp 65) (.tmp 66)⟩,
    ⟨none, none, .store 3 (.tmp 76) (.tmp 75)⟩]))) (.reg [
    ⟨some 77, none, .bin .add (.tmp 59) (.const (.int .i64 1))⟩,
    ⟨some 59, none, .mov (.tmp 77)⟩]))))))))))))
theorem t169 : Try.f169.body.bind (trC e169) = some c169 := by kernel_rfl
theorem r169 : Try.f169.results.toList.mapM (trR Try.prog) = some [] := by kernel_rfl
theorem fn169 {args : List Value} {M : Mem} {post : Value → Mem → Prop} (hl : args.length ≤ 78) (h : VC e169 c169 (fnQ [] post) (initS args 78) M) : Fn Try.prog 169 args M post :=
  Fn.of' (E := e169) Try.func169 t169 rfl r169 mixed hl h
noncomputable def e170 : Env := ⟨Try.prog, [2], 98, [(0, 10), (2, 17), (3, 18), (6, 17)]⟩
noncomputable def c170 : C :=
  .seq (.seq (.dreg 10 [
    ⟨some 3, none, .mov (.tmp 0)⟩,
    ⟨some 4, none, .nilCheck (.tmp 3)⟩,
    ⟨some 5, none, .faddr 6 (.tmp 4)⟩,
    ⟨some 6, none, .load true 1 (.tmp 5)⟩,
    ⟨some 7, none, .mov (.tmp 0)⟩,
    ⟨some 8, none, .nilCheck (.tmp 7)⟩,
    ⟨some 9, none, .faddr 4 (.tmp 8)⟩,
    ⟨some 10, none, .load true 1 (.tmp 9)⟩,
    ⟨some 11, none, .lenS (.tmp 10)⟩,
    ⟨some 12, none, .bin .eql (.tmp 6) (.tmp 11)⟩]) (.cond (.tmp 12) (.seq (.reg [
    ⟨some 13, none, .mov (.tmp 0)⟩,
    ⟨some 14, none, .mov (.tmp 0)⟩,
    ⟨some 15, none, .nilCheck (.tmp 14)⟩,
    ⟨some 16, none, .faddr 4 (.tmp 15)⟩,
    ⟨some 17, none, .load true 1 (.tmp 16)⟩,
    ⟨some 18, none, .lenS (.tmp 17)⟩,
    ⟨some 19, none, .call 175 [.tmp 13, .const (.int .i64 6), .tmp 18]⟩]) (.ret)) (.skip))) (.seq (.seq (.dreg 17 [
    ⟨some 20, none, .mov (.tmp 0)⟩,
    ⟨some 21, none, .nilCheck (.tmp 20)⟩,
    ⟨some 22, none, .faddr 7 (.tmp 21)⟩,
    ⟨some 23, none, .load true 1 (.tmp 22)⟩,
    ⟨some 24, none, .mov (.tmp 0)⟩,
    ⟨some 25, none, .nilCheck (.tmp 24)⟩,
    ⟨some 26, none, .faddr 4 (.tmp 25)⟩,
    ⟨some 27, none, .load true 1 (.tmp 26)⟩,
    ⟨some 28, none, .mov (.tmp 0)⟩,
    ⟨some 29, none, .nilCheck (.tmp 28)⟩,
    ⟨some 30, none, .faddr 6 (.tmp 29)⟩,
    ⟨some 31, none, .load true 1 (.tmp 30)⟩,
    ⟨some 32, none, .iaddr 8 (.tmp 27) (.tmp 31)⟩,
    ⟨some 33, none, .faddr 7 (.tmp 32)⟩,
    ⟨some 34, none, .load true 1 (.tmp 33)⟩,
    ⟨some 35, none, .lenS (.tmp 34)⟩,
    ⟨some 36, none, .bin .lss (.tmp 23) (.tmp 35)⟩]) (.cond (.tmp 36) (.seq (.dreg 18 [
    ⟨some 37, none, .mov (.tmp 0)⟩,
    ⟨some 38, none, .nilCheck (.tmp 37)⟩,
    ⟨some 39, none, .faddr 4 (.tmp 38)⟩,
    ⟨some 40, none, .load true 1 (.tmp 39)⟩,
    ⟨some 41, none, .mov (.tmp 0)⟩,
    ⟨some 42, none, .nilCheck (.tmp 41)⟩,
    ⟨some 43, none, .faddr 6 (.tmp 42)⟩,
    ⟨some 44, none, .load true 1 (.tmp 43)⟩,
    ⟨some 45, none, .iaddr 8 (.tmp 40) (.tmp 44)⟩,
    ⟨some 46, none, .faddr 7 (.tmp 45)⟩,
    ⟨some 47, none, .load true 1 (.tmp 46)⟩,
    ⟨some 48, none, .mov (.tmp 0)⟩,
    ⟨some 49, none, .nilCheck (.tmp 48)⟩,
    ⟨some 50, none, .faddr 7 (.tmp 49)⟩,
    ⟨some 51, none, .load true 1 (.tmp 50)⟩,
    ⟨some 52, none, .iaddr 6 (.tmp 47) (.tmp 51)⟩,
    ⟨some 53, none, .load false 6 (.tmp 52)⟩,
    ⟨some 2, none, .alloc true [.int .i64 0, .int .i64 0, .int .i64 0, .int .i64 0, .int .i64 0, .int .i64 0]⟩,
    ⟨none, none, .store 6 (.tmp 2) (.tmp 53)⟩]) (.seq (.reg [
    ⟨some 54, none, .mov (.tmp 0)⟩,
    ⟨some 55, none, .faddr 0 (.tmp 2)⟩,
    ⟨some 56, none, .load false 3 (.tmp 55)⟩,
    ⟨some 57, none, .call 104 [.tmp 54, .tmp 56]⟩,
    ⟨some 58, none, .faddr 0 (.tmp 2)⟩,
    ⟨none, none, .store 3 (.tmp 58) (.tmp 57)⟩]) (.seq (.reg [
    ⟨some 59, none, .mov (.tmp 0)⟩,
    ⟨some 60, none, .faddr 3 (.tmp 2)⟩,
    ⟨some 61, none, .load false 3 (.tmp 60)⟩,
    ⟨some 62, none, .call 104 [.tmp 59, .tmp 61]⟩,
    ⟨some 63, none, .faddr 3 (.tmp 2)⟩,
    ⟨none, none, .store 3 (.tmp 63) (.tmp 62)⟩]) (.seq (.dreg 17 [
    ⟨some 64, none, .mov (.tmp 0)⟩,
    ⟨some 65, none, .nilCheck (.tmp 64)⟩,
    ⟨some 66, none, .faddr 4 (.tmp 65)⟩,
    ⟨some 67, none, .load true 1 (.tmp 66)⟩,
    ⟨some 68, none, .mov (.tmp 0)⟩,
    ⟨some 69, none, .nilCheck (.tmp 68)⟩,
    ⟨some 70, none, .faddr 6 (.tmp 69)⟩,
    ⟨some 71, none, .load true 1 (.tmp 70)⟩,
    ⟨some 72, none, .iaddr 8 (.tmp 67) (.tmp 71)⟩,
    ⟨some 73, none, .faddr 7 (.tmp 72)⟩,
    ⟨some 74, none, .load true 1 (.tmp 73)⟩,
    ⟨some 75, none, .mov (.tmp 0)⟩,
    ⟨some 76, none, .nilCheck (.tmp 75)⟩,
    ⟨some 77, none, .faddr 7 (.tmp 76)⟩,
    ⟨some 78, none, .load true 1 (.tmp 77)⟩,
    ⟨some 79, none, .load false 6 (.tmp 2)⟩,
    ⟨some 80, none, .iaddr 6 (.tmp 74) (.tmp 78)⟩,
    ⟨none, none, .store 6 (.tmp 80) (.tmp 79)⟩]) (.seq (.reg [
    ⟨some 81, none, .mov (.tmp 0)⟩,
    ⟨some 82, none, .nilCheck (.tmp 81)⟩,
    ⟨some 83, none, .faddr 7 (.tmp 82)⟩,
    ⟨some 84, none, .load true 1 (.tmp 83)⟩,
    ⟨some 85, none, .bin .add (.tmp 84) (.const (.int .i64 1))⟩,
    ⟨some 86, none, .nilCheck (.tmp 81)⟩,
    ⟨some 87, none, .faddr 7 (.tmp 86)⟩,
    ⟨none, none, .store 1 (.tmp 87) (.tmp 85)⟩]) (.ret)))))) (.skip))) (.seq (.reg [
    ⟨some 88, none, .mov (.tmp 0)⟩,
    ⟨some 89, none, .nilCheck (.tmp 88)⟩,
    ⟨some 90, none, .faddr 6 (.tmp 89)⟩,
    ⟨some 91, none, .load true 1 (.tmp 90)⟩,
    ⟨some 92, none, .bin .add (.tmp 91) (.const (.int .i64 1))⟩,
    ⟨some 93, none, .nilCheck (.tmp 88)⟩,
    ⟨some 94, none, .faddr 6 (.tmp 93)⟩,
    ⟨none, none, .store 1 (.tmp 94) (.tmp 92)⟩]) (.reg [
    ⟨some 95, none, .mov (.tmp 0)⟩,
    ⟨some 96, none, .nilCheck (.tmp 95)⟩,
    ⟨some 97, none, .faddr 7 (.tmp 96)⟩,
    ⟨none, none, .store 1 (.tmp 97) (.const (.int .i64 0))⟩])))
theorem t170 : Try.f170.body.bind (trC e170) = some c170 := by kernel_rfl
theorem r170 : Try.f170.results.toList.mapM (trR Try.prog) = some [] := by kernel_rfl
theorem fn170 {args : List Value} {M : Mem} {post : Value → Mem → Prop} (hl : args.length ≤ 98) (h : VC e170 c170 (fnQ [] post) (initS args 98) M) : Fn Try.prog 170 args M post :=
  Fn.of' (E := e170) Try.func170 t170 rfl r170 mixed hl h
noncomputable def e171 : Env := ⟨Try.prog, [], 87, [(5, 12), (6, 10), (7, 25), (8, 12)]⟩
noncomputable def c171 : C :=
  .seq (.seq (.reg [
    ⟨some 2, none, .mov (.tmp 0)⟩,
    ⟨some 3, none, .nilCheck (.tmp 2)⟩,
    ⟨some 4, none, .faddr 6 (.tmp 3)⟩,
    ⟨some 5, none, .load true 1 (.tmp 4)⟩,
    ⟨some 6, none, .bin .eql (.tmp 5) (.const (.int .i64 0))⟩]) (.cond (.tmp 6) (.seq (.reg [
    ⟨some 7, none, .mov (.tmp 0)⟩,
    ⟨some 8, none, .call 175 [.tmp 7, .const (.int .i64 0), .const (.int .i64 0)]⟩]) (.seq (.seq (.reg [
    ⟨some 9, none, .mov (.tmp 0)⟩,
    ⟨some 10, none, .nilCheck (.tmp 9)⟩,
    ⟨some 11, none, .faddr 11 (.tmp 10)⟩,
    ⟨some 12, none, .load true 1 (.tmp 11)⟩,
    ⟨some 13, none, .bin .lss (.tmp 12) (.const (.int .i64 1000000000))⟩]) (.cond (.tmp 13) (.reg [
    ⟨some 14, none, .mov (.tmp 0)⟩,
    ⟨some 15, none, .nilCheck (.tmp 14)⟩,
    ⟨some 16, none, .faddr 11 (.tmp 15)⟩,
    ⟨some 17, none, .load true 1 (.tmp 16)⟩,
    ⟨some 18, none, .bin .add (.tmp 17) (.const (.int .i64 1))⟩,
    ⟨some 19, none, .nilCheck (.tmp 14)⟩,
    ⟨some 20, none, .faddr 11 (.tmp 19)⟩,
    ⟨none, none, .store 1 (.tmp 20) (.tmp 18)⟩]) (.skip))) (.ret))) (.skip))) (.seq (.reg [
    ⟨some 21, none, .mov (.tmp 0)⟩,
    ⟨some 22, none, .nilCheck (.tmp 21)⟩,
    ⟨some 23, none, .faddr 6 (.tmp 22)⟩,
    ⟨some 24, none, .load true 1 (.tmp 23)⟩,
    ⟨some 25, none, .bin .sub (.tmp 24) (.const (.int .i64 1))⟩,
    ⟨some 26, none, .nilCheck (.tmp 21)⟩,
    ⟨some 27, none, .faddr 6 (.tmp 26)⟩,
    ⟨none, none, .store 1 (.tmp 27) (.tmp 25)⟩]) (.seq (.seq (.dreg 12 [
    ⟨some 28, none, .mov (.tmp 0)⟩,
    ⟨some 29, none, .nilCheck (.tmp 28)⟩,
    ⟨some 30, none, .faddr 4 (.tmp 29)⟩,
    ⟨some 31, none, .load true 1 (.tmp 30)⟩,
    ⟨some 32, none, .mov (.tmp 0)⟩,
    ⟨some 33, none, .nilCheck (.tmp 32)⟩,
    ⟨some 34, none, .faddr 6 (.tmp 33)⟩,
    ⟨some 35, none, .load true 1 (.tmp 34)⟩,
    ⟨some 36, none, .iaddr 8 (.tmp 31) (.tmp 35)⟩,
    ⟨some 37, none, .faddr 0 (.tmp 36)⟩,
    ⟨some 38, none, .load true 1 (.tmp 37)⟩,
    ⟨some 39, none, .bin .eql (.tmp 38) (.const (.int .i64 2))⟩]) (.cond (.tmp 39) (.dreg 10 [
    ⟨some 40, none, .mov (.tmp 0)⟩,
    ⟨some 41, none, .nilCheck (.tmp 40)⟩,
    ⟨some 42, none, .faddr 4 (.tmp 41)⟩,
    ⟨some 43, none, .load true 1 (.tmp 42)⟩,
    ⟨some 44, none, .mov (.tmp 0)⟩,
    ⟨some 45, none, .nilCheck (.tmp 44)⟩,
    ⟨some 46, none, .faddr 6 (.tmp 45)⟩,
    ⟨some 47, none, .load true 1 (.tmp 46)⟩,
    ⟨some 48, none, .build [.int .i64 0, .int .i64 0, .int .i64 0, .int .i64 0, .int .i64 0, .int .i64 0, .int .i64 0, .slice none 0 0] []⟩,
    ⟨some 49, none, .iaddr 8 (.tmp 43) (.tmp 47)⟩,
    ⟨none, none, .store 8 (.tmp 49) (.tmp 48)⟩]) (.skip))) (.seq (.dreg 25 [
    ⟨some 50, none, .mov (.tmp 0)⟩,
    ⟨some 51, none, .nilCheck (.tmp 50)⟩,
    ⟨some 52, none, .faddr 6 (.tmp 51)⟩,
    ⟨some 53, none, .load true 1 (.tmp 52)⟩,
    ⟨some 54, none, .mov (.tmp 0)⟩,
    ⟨some 55, none, .nilCheck (.tmp 54)⟩,
    ⟨some 56, none, .faddr 4 (.tmp 55)⟩,
    ⟨some 57, none, .load true 1 (.tmp 56)⟩,
    ⟨some 58, none, .lenS (.tmp 57)⟩,
    ⟨some 59, none, .bin .sub (.tmp 58) (.const (.int .i64 1))⟩,
    ⟨some 60, none, .bin .eql (.tmp 53) (.tmp 59)⟩,
    ⟨some 61, none, .mov (.tmp 60)⟩,
    ⟨some 62, some (61, true), .mov (.tmp 0)⟩,
    ⟨some 63, some (61, true), .nilCheck (.tmp 62)⟩,
    ⟨some 64, some (61, true), .faddr 4 (.tmp 63)⟩,
    ⟨some 65, some (61, true), .load true 1 (.tmp 64)⟩,
    ⟨some 66, some (61, true), .mov (.tmp 0)⟩,
    ⟨some 67, some (61, true), .nilCheck (.tmp 66)⟩,
    ⟨some 68, some (61, true), .faddr 6 (.tmp 67)⟩,
    ⟨some 69, some (61, true), .load true 1 (.tmp 68)⟩,
    ⟨some 70, some (61, true), .iaddr 8 (.tmp 65) (.tmp 69)⟩,
    ⟨some 71, some (61, true), .faddr 0 (.tmp 70)⟩,
    ⟨some 72, some (61, true), .load true 1 (.tmp 71)⟩,
    ⟨some 73, some (61, true), .bin .eql (.tmp 72) (.const (.int .i64 0))⟩,
    ⟨some 74, none, .pick (.tmp 61) (.tmp 73) (.const (.bool false))⟩]) (.cond (.tmp 74) (.dreg 12 [
    ⟨some 75, none, .mov (.tmp 0)⟩,
    ⟨some 76, none, .mov (.tmp 0)⟩,
    ⟨some 77, none, .nilCheck (.tmp 76)⟩,
    ⟨some 78, none, .faddr 4 (.tmp 77)⟩,
    ⟨some 79, none, .load true 1 (.tmp 78)⟩,
    ⟨some 80, none, .mov (.tmp 0)⟩,
    ⟨some 81, none, .nilCheck (.tmp 80)⟩,
    ⟨some 82, none, .faddr 6 (.tmp 81)⟩,
    ⟨some 83, none, .load true 1 (.tmp 82)⟩,
    ⟨some 84, none, .slc 8 (.tmp 79) none (some (.tmp 83))⟩,
    ⟨some 85, none, .nilCheck (.tmp 75)⟩,
    ⟨some 86, none, .faddr 4 (.tmp 85)⟩,
    ⟨none, none, .store 1 (.tmp 86) (.tmp 84)⟩]) (.skip)))))
theorem t171 : Try.f171.body.bind (trC e171) = some c171 := by kernel_rfl
theorem r171 : Try.f171.results.toList.mapM (trR Try.prog) = some [] := by kernel_rfl
theorem fn171 {args : List Value} {M : Mem} {post : Value → Mem → Prop} (hl : args.length ≤ 87) (h : VC e171 c171 (fnQ [] post) (initS args 87) M) : Fn Try.prog 171 args M post :=
  Fn.of' (E := e171) Try.func171 t171 rfl r171 mixed hl h
noncomputable def e127 : Env := ⟨Try.prog, [], 30, []⟩
noncomputable def c127 : C :=
  .seq (.reg [
    ⟨some 4, none, .mov (.const (.int .i64 0))⟩]) (.seq (.seq (.reg [
    ⟨some 6, none, .mov (.tmp 1)⟩,
    ⟨some 7, none, .bin .eql (.tmp 6) (.const (.int .i64 0))⟩]) (.cond (.tmp 7) (.seq (.reg [
    ⟨some 4, none, .mov (.const (.int .i64 0))⟩]) (.ret)) (.skip))) (.seq (.seq (.reg [
    ⟨some 8, none, .mov (.tmp 0)⟩,
    ⟨some 9, none, .nilCheck (.tmp 8)⟩,
    ⟨some 10, none, .faddr 5 (.tmp 9)⟩,
    ⟨some 11, none, .load true 1 (.tmp 10)⟩,
    ⟨some 12, none, .bin .eql (.tmp 11) (.const (.int .i64 0))⟩]) (.cond (.tmp 12) (.reg [
    ⟨some 13, none, .mov (.tmp 0)⟩,
    ⟨some 14, none, .call 161 [.tmp 13]⟩]) (.skip))) (.seq (.reg [
    ⟨some 5, none, .mov (.const (.int .i64 0))⟩]) (.seq (.block 0 (.loop (.seq (.seq (.reg [
    ⟨some 15, none, .mov (.tmp 5)⟩,
    ⟨some 16, none, .mov (.tmp 1)⟩,
    ⟨some 17, none, .bin .lss (.tmp 15) (.tmp 16)⟩,
    ⟨some 18, none, .mov (.tmp 17)⟩,
    ⟨some 19, some (18, true), .mov (.tmp 0)⟩,
    ⟨some 20, some (18, true), .nilCheck (.tmp 19)⟩,
    ⟨some 21, some (18, true), .faddr 5 (.tmp 20)⟩,
    ⟨some 22, some (18, true), .load true 1 (.tmp 21)⟩,
    ⟨some 23, some (18, true), .bin .neq (.tmp 22) (.const (.int .i64 0))⟩,
    ⟨some 24, none, .pick (.tmp 18) (.tmp 23) (.const (.bool false))⟩]) (.cond (.tmp 24) (.skip) (.exit 0))) (.block 1 (.seq (.reg [
    ⟨some 25, none, .mov (.tmp 0)⟩,
    ⟨some 26, none, .call 155 [.tmp 25]⟩]) (.reg [
    ⟨some 27, none, .mov (.tmp 5)⟩,
    ⟨some 28, none, .bin .add (.tmp 27) (.const (.int .i64 1))⟩,
    ⟨some 5, none, .mov (.tmp 28)⟩])))))) (.seq (.reg [
    ⟨some 29, none, .mov (.tmp 5)⟩,
    ⟨some 4, none, .mov (.tmp 29)⟩]) (.ret))))))
theorem t127 : Try.f127.body.bind (trC e127) = some c127 := by kernel_rfl
theorem r127 : Try.f127.results.toList.mapM (trR Try.prog) = some [.tmp 4] := by kernel_rfl
theorem fn127 {args : List Value} {M : Mem} {post : Value → Mem → Prop} (hl : args.length ≤ 30) (h : VC e127 c127 (fnQ [.tmp 4] post) (initS args 30) M) : Fn Try.prog 127 args M post :=
  Fn.of' (E := e127) Try.func127 t127 rfl r127 mixed hl h
noncomputable def e62 : Env := ⟨Try.prog, [2, 4], 29, []⟩
noncomputable def c62 : C :=
  .seq (.reg [
    ⟨some 2, none, .box true (.tmp 0)⟩,
    ⟨some 4, none, .alloc true [.int .i64 0, .int .i64 0, .int .i64 0, .slice none 0 0, .slice none 0 0, .int .i64 0, .int .i64 0, .int .i64 0, .slice none 0 0, .int .i64 0, .int .i64 0, .int .i64 0, .int .i64 0, .int .i64 0]⟩]) (.seq (.seq (.reg [
    ⟨some 7, none, .load false 13 (.tmp 2)⟩,
    ⟨some 8, none, .call 31 [.tmp 7]⟩,
    ⟨some 9, none, .bin .neq (.tmp 8) (.const (.int .i64 0))⟩,
    ⟨some 10, none, .mov (.tmp 9)⟩,
    ⟨some 11, some (10, false), .mov (.tmp 1)⟩,
    ⟨some 12, some (10, false), .bin .lss (.tmp 11) (.const (.int .i64 0))⟩,
    ⟨some 13, none, .pick (.tmp 10) (.const (.bool true)) (.tmp 12)⟩,
    ⟨some 14, none, .mov (.tmp 13)⟩,
    ⟨some 15, some (14, false), .mov (.tmp 1)⟩,
    ⟨some 16, some (14, false), .bin .gtr (.tmp 15) (.const (.int .i64 100000))⟩,
    ⟨some 17, none, .pick (.tmp 14) (.const (.bool true)) (.tmp 16)⟩]) (.cond (.tmp 17) (.seq (.reg [
    ⟨some 18, none, .build [.int .i64 0, .int .i64 0, .int .i64 0, .slice none 0 0, .slice none 0 0, .int .i64 0, .int .i64 0, .int .i64 0, .slice none 0 0, .int .i64 0, .int .i64 0, .int .i64 0, .int .i64 0, .int .i64 0] []⟩,
    ⟨none, none, .store 14 (.tmp 4) (.tmp 18)⟩]) (.ret)) (.skip))) (.seq (.reg [
    ⟨some 19, none, .load false 13 (.tmp 2)⟩,
    ⟨some 20, none, .call 117 [.tmp 19]⟩,
    ⟨some 5, none, .mov (.tmp 20)⟩]) (.seq (.reg [
    ⟨some 21, none, .mov (.tmp 5)⟩,
    ⟨some 22, none, .mov (.tmp 1)⟩,
    ⟨some 23, none, .call 127 [.tmp 21, .tmp 22]⟩,
    ⟨some 6, none, .mov (.tmp 23)⟩]) (.seq (.reg [
    ⟨some 24, none, .mov (.tmp 5)⟩,
    ⟨some 25, none, .nilCheck (.tmp 24)⟩,
    ⟨some 26, none, .load false 13 (.tmp 25)⟩,
    ⟨some 27, none, .mov (.tmp 6)⟩,
    ⟨some 28, none, .build [.int .i64 0, .int .i64 0, .int .i64 0, .slice none 0 0, .slice none 0 0, .int .i64 0, .int .i64 0, .int .i64 0, .slice none 0 0, .int .i64 0, .int .i64 0, .int .i64 0, .int .i64 0, .int .i64 0] [(0, 13, .tmp 26), (13, 1, .tmp 27)]⟩,
    ⟨none, none, .store 14 (.tmp 4) (.tmp 28)⟩]) (.ret)))))
theorem t62 : Try.f62.body.bind (trC e62) = some c62 := by kernel_rfl
theorem r62 : Try.f62.results.toList.mapM (trR Try.prog) = some [.cell 4 false 14] := by kernel_rfl
theorem fn62 {args : List Value} {M : Mem} {post : Value → Mem → Prop} (hl : args.length ≤ 29) (h : VC e62 c62 (fnQ [.cell 4 false 14] post) (initS args 29) M) : Fn Try.prog 62 args M post :=
  Fn.of' (E := e62) Try.func62 t62 rfl r62 mixed hl h
end Go.Proofs.Ytcmllambknfleaa.E
