/- A part of the proof. Conditions: none. -/
import Derived.Test.YtcmllambknfleaaKF5
set_option linter.unusedVariables false
set_option linter.unusedSimpArgs false
set_option maxHeartbeats 4000000
namespace Go.Proofs.Ytcmllambknfleaa.E
open Go
theorem rd_hd {a j : Nat} {h : Hdr} {v : Value} (e : h.row[j]? = some v) : RdA (hdA a h) a j v := rd_bx e
theorem rs_hd {a : Nat} {h : Hdr} : RsA (hdA a h) a 0 13 h.row := rs_bx (by simp [Hdr.row]) rfl
theorem up_hd {a j : Nat} {h h' : Hdr} {vs : List Value} (hj : j + vs.length ≤ 13) (e : WrK h.row j vs (fun c => h'.row = c)) : UpA (hdA a h) a j vs (hdA a h') :=
  up_bx (by simpa [Hdr.row] using hj) ⟨by unfold hdA; rw [e.out]⟩
def Hdr.s_room (h : Hdr) (v : Int) : Hdr := { h with room := v }
theorem u_room {a : Nat} {h : Hdr} {v : Int} : UpA (hdA a h) a 0 [.int .i64 v] (hdA a (h.s_room v)) := up_hd (by simp) ⟨rfl⟩
def Hdr.s_used (h : Hdr) (v : Int) : Hdr := { h with used := v }
theorem u_used {a : Nat} {h : Hdr} {v : Int} : UpA (hdA a h) a 1 [.int .i64 v] (hdA a (h.s_used v)) := up_hd (by simp) ⟨rfl⟩
def Hdr.s_born (h : Hdr) (v : Int) : Hdr := { h with born := v }
theorem u_born {a : Nat} {h : Hdr} {v : Int} : UpA (hdA a h) a 2 [.int .i64 v] (hdA a (h.s_born v)) := up_hd (by simp) ⟨rfl⟩
def Hdr.s_phase (h : Hdr) (v : Int) : Hdr := { h with phase := v }
theorem u_phase {a : Nat} {h : Hdr} {v : Int} : UpA (hdA a h) a 5 [.int .i64 v] (hdA a (h.s_phase v)) := up_hd (by simp) ⟨rfl⟩
def Hdr.s_hand (h : Hdr) (v : Int) : Hdr := { h with hand := v }
theorem u_hand {a : Nat} {h : Hdr} {v : Int} : UpA (hdA a h) a 6 [.int .i64 v] (hdA a (h.s_hand v)) := up_hd (by simp) ⟨rfl⟩
def Hdr.s_sub (h : Hdr) (v : Int) : Hdr := { h with sub := v }
theorem u_sub {a : Nat} {h : Hdr} {v : Int} : UpA (hdA a h) a 7 [.int .i64 v] (hdA a (h.s_sub v)) := up_hd (by simp) ⟨rfl⟩
def Hdr.s_per (h : Hdr) (v : Int) : Hdr := { h with per := v }
theorem u_per {a : Nat} {h : Hdr} {v : Int} : UpA (hdA a h) a 9 [.int .i64 v] (hdA a (h.s_per v)) := up_hd (by simp) ⟨rfl⟩
def Hdr.s_start (h : Hdr) (v : Int) : Hdr := { h with start := v }
theorem u_start {a : Nat} {h : Hdr} {v : Int} : UpA (hdA a h) a 10 [.int .i64 v] (hdA a (h.s_start v)) := up_hd (by simp) ⟨rfl⟩
def Hdr.s_rounds (h : Hdr) (v : Int) : Hdr := { h with rounds := v }
theorem u_rounds {a : Nat} {h : Hdr} {v : Int} : UpA (hdA a h) a 11 [.int .i64 v] (hdA a (h.s_rounds v)) := up_hd (by simp) ⟨rfl⟩
def Hdr.s_forced (h : Hdr) (v : Int) : Hdr := { h with forced := v }
theorem u_forced {a : Nat} {h : Hdr} {v : Int} : UpA (hdA a h) a 12 [.int .i64 v] (hdA a (h.s_forced v)) := up_hd (by simp) ⟨rfl⟩
def Hdr.s_rd (h : Hdr) (d : D) (n : Nat) : Hdr := { h with rd := d, nr := n }
theorem u_rd {a : Nat} {h : Hdr} {d : D} {n : Nat} : UpA (hdA a h) a 3 [.slice d.a n d.cap] (hdA a (h.s_rd d n)) := up_hd (by simp) ⟨rfl⟩
def Hdr.s_cd (h : Hdr) (d : D) (n : Nat) : Hdr := { h with cd := d, nc := n }
theorem u_cd {a : Nat} {h : Hdr} {d : D} {n : Nat} : UpA (hdA a h) a 4 [.slice d.a n d.cap] (hdA a (h.s_cd d n)) := up_hd (by simp) ⟨rfl⟩
def Hdr.s_gd (h : Hdr) (d : D) (n : Nat) : Hdr := { h with gd := d, ng := n }
theorem u_gd {a : Nat} {h : Hdr} {d : D} {n : Nat} : UpA (hdA a h) a 8 [.slice d.a n d.cap] (hdA a (h.s_gd d n)) := up_hd (by simp) ⟨rfl⟩
def CS.s_state (y : CS) (v : Int) : CS := { y with c := { y.c with state := v } }
def CS.s_kind (y : CS) (v : Int) : CS := { y with c := { y.c with kind := v } }
def CS.s_weak (y : CS) (v : Int) : CS := { y with c := { y.c with weak := v } }
def CS.s_last (y : CS) (v : Int) : CS := { y with c := { y.c with last := v } }
def CS.s_born (y : CS) (v : Int) : CS := { y with c := { y.c with born := v } }
def CS.s_color (y : CS) (v : Int) : CS := { y with c := { y.c with color := v } }
def CS.s_to (y : CS) (v : Int) : CS := { y with c := { y.c with to := v } }
def CS.s_pair (y : CS) (k : Nat) (p : Pair) : CS := { y with c := { y.c with pairs := y.c.pairs.set k p } }
def Pair.s_key (p : Pair) (w : Word) : Pair := { p with key := w }
def Pair.s_val (p : Pair) (w : Word) : Pair := { p with val := w }
section
variable {cd : D} {ys : List CS} {i : Nat} {y : CS} {v : Int}
theorem u_cstate (hi : ys[i]? = some y) : UpA (clA cd ys) cd.b (cd.o + i * 8 + 0) [.int .i64 v] (clA cd (ys.set i (y.s_state v))) := up_cl hi (by simp) rfl rfl rfl
theorem u_ckind (hi : ys[i]? = some y) : UpA (clA cd ys) cd.b (cd.o + i * 8 + 1) [.int .i64 v] (clA cd (ys.set i (y.s_kind v))) := up_cl hi (by simp) rfl rfl rfl
theorem u_cweak (hi : ys[i]? = some y) : UpA (clA cd ys) cd.b (cd.o + i * 8 + 2) [.int .i64 v] (clA cd (ys.set i (y.s_weak v))) := up_cl hi (by simp) rfl rfl rfl
theorem u_clast (hi : ys[i]? = some y) : UpA (clA cd ys) cd.b (cd.o + i * 8 + 3) [.int .i64 v] (clA cd (ys.set i (y.s_last v))) := up_cl hi (by simp) rfl rfl rfl
theorem u_cborn (hi : ys[i]? = some y) : UpA (clA cd ys) cd.b (cd.o + i * 8 + 4) [.int .i64 v] (clA cd (ys.set i (y.s_born v))) := up_cl hi (by simp) rfl rfl rfl
theorem u_ccolor (hi : ys[i]? = some y) : UpA (clA cd ys) cd.b (cd.o + i * 8 + 5) [.int .i64 v] (clA cd (ys.set i (y.s_color v))) := up_cl hi (by simp) rfl rfl rfl
theorem u_cto (hi : ys[i]? = some y) : UpA (clA cd ys) cd.b (cd.o + i * 8 + 6) [.int .i64 v] (clA cd (ys.set i (y.s_to v))) := up_cl hi (by simp) rfl rfl rfl
variable {k : Nat} {p : Pair} {w : Word}
theorem u_key (hi : ys[i]? = some y) (hk : y.c.pairs[k]? = some p) : UpA (clA cd ys) y.d.b (y.d.o + k * 6 + 0) (wv w) (clA cd (ys.set i (y.s_pair k (p.s_key w)))) := up_cp hi hk (by simp [wv]) rfl
theorem u_val (hi : ys[i]? = some y) (hk : y.c.pairs[k]? = some p) : UpA (clA cd ys) y.d.b (y.d.o + k * 6 + 3) (wv w) (clA cd (ys.set i (y.s_pair k (p.s_val w)))) := up_cp hi hk (by simp [wv]) rfl
theorem r_key (hi : ys[i]? = some y) (hk : y.c.pairs[k]? = some p) : RsA (clA cd ys) y.d.b (y.d.o + k * 6 + 0) 3 (wv p.key) := rs_cpp hi hk (by omega) rfl
theorem r_val (hi : ys[i]? = some y) (hk : y.c.pairs[k]? = some p) : RsA (clA cd ys) y.d.b (y.d.o + k * 6 + 3) 3 (wv p.val) := rs_cpp hi hk (by omega) rfl
end
section
variable {d : D} {ws : List Word} {i : Nat} {w w' : Word} {v : Int}
theorem u_reg (hi : ws[i]? = some w) : UpA (slA 3 wv d ws) d.b (d.o + i * 3) (wv w') (slA 3 wv d (ws.set i w')) := up_sl (j := 0) wv_len hi (by simp [wv]) rfl
theorem u_regat (hi : ws[i]? = some w) : UpA (slA 3 wv d ws) d.b (d.o + i * 3 + 2) [.int .i64 v] (slA 3 wv d (ws.set i { w with at_ := v })) := up_sl wv_len hi (by simp) rfl
theorem r_reg (hi : ws[i]? = some w) : RsA (slA 3 wv d ws) d.b (d.o + i * 3) 3 (wv w) := rs_sl wv_len hi
variable {is : List Int} {n m : Int}
theorem r_int (hi : is[i]? = some n) : RdA (slA 1 iv d is) d.b (d.o + i * 1) (.int .i64 n) := rd_sl (j := 0) iv_len hi rfl
theorem u_int (hi : is[i]? = some n) : UpA (slA 1 iv d is) d.b (d.o + i * 1) [.int .i64 m] (slA 1 iv d (is.set i m)) := up_sl (j := 0) iv_len hi (by simp) rfl
variable {bs : List Bool} {b b' : Bool}
theorem r_bool (hi : bs[i]? = some b) : RdA (slA 1 bv d bs) d.b (d.o + i * 1) (.bool b) := rd_sl (j := 0) bv_len hi rfl
theorem u_bool (hi : bs[i]? = some b) : UpA (slA 1 bv d bs) d.b (d.o + i * 1) [.bool b'] (slA 1 bv d (bs.set i b')) := up_sl (j := 0) bv_len hi (by simp) rfl
end
@[simp] theorem HX.hs_H (x : HX) : x.hs.H = x.H := rfl
theorem hp_r {a : Nat} {x : HX} {m : Mem} (h : star (hp a x) m) : PH m a x.hs := by
  obtain ⟨b, r, d, rfl, h1, h2⟩ := h
  have h1 : b = one a (.row x.row) := h1
  subst h1
  exact ⟨un_l (one_same _ _), (body_r h2).le (le_r d)⟩
def Has (m : Mem) (As : List Asr) : Prop := ∃ a, a.le m ∧ star As a
theorem Has.le {m M : Mem} {As : List Asr} (h : Has m As) (l : m.le M) : Has M As := by obtain ⟨a, l', s⟩ := h; exact ⟨a, Mem.le_trans l' l, s⟩
theorem Has.ent {m : Mem} {As Bs : List Asr} (h : Has m As) (e : Ent As Bs) : Has m Bs := by obtain ⟨a, l', s⟩ := h; obtain ⟨b, l2, s2⟩ := e.out a s; exact ⟨b, Mem.le_trans l2 l', s2⟩
def ro (m0 : Mem) : Asr := fun m => m = m0
theorem rd_ro {m0 : Mem} {As : List Asr} {b o : Nat} {v : Value} (h : Has m0 As) (r : Rd As b o v) : RdA (ro m0) b o v := ⟨fun m hm => by
  have hm : m = m0 := hm
  subst hm; obtain ⟨a, l, s⟩ := h; exact cell_le l (r.out a s)⟩
theorem rs_ro {m0 : Mem} {As : List Asr} {b o n : Nat} {v : List Value} (h : Has m0 As) (r : Rs As b o n v) : RsA (ro m0) b o n v := ⟨fun m hm => by
  have hm : m = m0 := hm
  subst hm; obtain ⟨a, l, s⟩ := h; exact cells_le l (r.out a s)⟩
theorem kn_ro {m0 : Mem} {As : List Asr} {p : Prop} (h : Has m0 As) (r : Kn As p) : KnA (ro m0) p := ⟨fun m hm => by
  obtain ⟨a, l, s⟩ := h; exact r.out a s⟩
theorem Has.ph {m : Mem} {a : Nat} {x : HX} (h : Has m (hp a x)) : PH m a x.hs := by obtain ⟨b, l, s⟩ := h; exact (hp_r s).le l
theorem Has.b {m : Mem} {x : HX} (h : Has m x.body) : RHV m x.hs := by obtain ⟨b, l, s⟩ := h; exact (body_r s).le l
theorem ro_of {As F : List Asr} {m0 m : Mem} (hm : star As m) (h : Pm As [ro m0] F) : m0.le m := by
  obtain ⟨a, b, d, rfl, ⟨a1, a2, d2, rfl, h1, h2⟩, _⟩ := star_append.1 (h.out m hm)
  have h1 : a1 = m0 := h1
  subst h1
  exact Mem.le_trans (le_l _ _) (le_l _ _)
/-- a function that only looks, and what it makes besides is dropped -/
theorem Fn.shrink {P : Program} {f : FuncId} {args : List Value} {M : Mem} {post : Value → Mem → Prop} (h : Fn P f args M (fun v M' => ∃ m', m'.le M' ∧ post v m')) : Fn P f args M post :=
  ⟨fun w hw => (h.out w hw).mono fun e w' ⟨v, M', he, ⟨m', l, hp⟩, hs, ht⟩ => ⟨v, m', he, hp, hs.le l, ht.le l⟩⟩
theorem qt_of {P : Program} {f : FuncId} {args : List Value} {m : Mem} {r : Value} (h : FnA P f args [ro m] (fun v As => v = r ∧ As = [ro m])) : Qt P f args m r := by
  refine Fn.shrink ((h.out m ⟨m, emp, disj_emp _, (un_emp _).symm, rfl, rfl⟩).mono ?_)
  rintro v M' ⟨As, m', l, s, rfl, rfl⟩
  obtain ⟨a, b, d, rfl, h1, h2⟩ := s
  have h1 : a = m := h1
  subst h1
  exact ⟨a, Mem.le_trans (le_l _ _) l, rfl, rfl⟩
theorem has_new {m m0 : Mem} {b : Nat} {x : HX} {As F : List Asr} (h : Has m0 x.body) (s : star As m) (hm : Pm As [hdA b x.hdr, ro m0] F) : Has m (hp b x) := by
  obtain ⟨a, c, d, rfl, ⟨a1, a2, d2, rfl, h1, ⟨a3, a4, d3, rfl, h3, _⟩⟩, _⟩ := star_append.1 (hm.out m s)
  have h3 : a3 = m0 := h3
  subst h3
  obtain ⟨m', l, s'⟩ := h
  have l' : m'.le (a3.un a4) := Mem.le_trans l (le_l _ _)
  have d' : Disj a1 m' := fun x => by
    rcases d2 x with h | h
    · exact .inl h
    · exact .inr (le_none l' h)
  refine ⟨a1.un m', ?_, a1, m', d', rfl, h1, s'⟩
  refine Mem.le_trans ?_ (le_l _ _)
  intro x k hk
  cases ha : a1 x with
  | some k' => rw [un_l ha] at hk; cases hk; exact un_l ha
  | none => rw [un_n ha] at hk; exact un_r d2 (l' x k hk)
theorem sep_has {As F Bs : List Asr} {m : Mem} (hm : star As m) (h : Pm As Bs F) : Has m Bs := by
  obtain ⟨m1, m2, d, rfl, h1, h2⟩ := star_append.1 (h.out m hm)
  exact ⟨m1, le_l _ _, h1⟩
theorem rd_bad {b o : Nat} {v : Value} (h : False) : Rd [fun _ => False] b o v := h.elim
theorem rs_bad {b o n : Nat} {v : List Value} (h : False) : Rs [fun _ => False] b o n v := h.elim
theorem kn_bad {p : Prop} (h : False) : Kn [fun _ => False] p := h.elim
theorem up_bad {b o : Nat} {v : List Value} {R : List Asr} (h : False) : Up [fun _ => False] b o v R := h.elim
theorem pk_bad {A : Asr} {R : List Asr} (h : False) : Pk [fun _ => False] A R := h.elim
theorem pm_bad {R F : List Asr} (h : False) : Pm [fun _ => False] R F := h.elim
section
variable {P : Program} {S : St} {As : List Asr} {post : St → List Asr → Prop} {r : List I} {d : Option Nat}
theorem k_L {i : I} (h : LA P (i :: r) post S As) : LA P (i :: r) post S As := h
theorem k_V {E : Env} {c : C} {Q : X → St → List Asr → Prop} (h : VA E c Q S As) : VA E c Q S As := h
theorem k_g {g : Nat × Bool} {k : K} (h : LA P (⟨d, some g, k⟩ :: r) post S As) : LA P (⟨d, some g, k⟩ :: r) post S As := h
theorem k_ad {x y : Operand} (h : LA P (⟨d, none, .bin .add x y⟩ :: r) post S As) : LA P (⟨d, none, .bin .add x y⟩ :: r) post S As := h
theorem k_su {x y : Operand} (h : LA P (⟨d, none, .bin .sub x y⟩ :: r) post S As) : LA P (⟨d, none, .bin .sub x y⟩ :: r) post S As := h
theorem k_ml {x y : Operand} (h : LA P (⟨d, none, .bin .mul x y⟩ :: r) post S As) : LA P (⟨d, none, .bin .mul x y⟩ :: r) post S As := h
theorem k_i {n : Nat} {x y : Operand} (h : LA P (⟨d, none, .iaddr n x y⟩ :: r) post S As) : LA P (⟨d, none, .iaddr n x y⟩ :: r) post S As := h
theorem k_l {n : Nat} {x : Operand} (h : LA P (⟨d, none, .load true n x⟩ :: r) post S As) : LA P (⟨d, none, .load true n x⟩ :: r) post S As := h
theorem k_ls {n : Nat} {x : Operand} (h : LA P (⟨d, none, .load false n x⟩ :: r) post S As) : LA P (⟨d, none, .load false n x⟩ :: r) post S As := h
theorem k_st {n : Nat} {x y : Operand} (h : LA P (⟨d, none, .store n x y⟩ :: r) post S As) : LA P (⟨d, none, .store n x y⟩ :: r) post S As := h
theorem k_al {z : List Value} (h : LA P (⟨d, none, .alloc true z⟩ :: r) post S As) : LA P (⟨d, none, .alloc true z⟩ :: r) post S As := h
theorem k_bx {x : Operand} (h : LA P (⟨d, none, .box true x⟩ :: r) post S As) : LA P (⟨d, none, .box true x⟩ :: r) post S As := h
theorem k_bl {a b : Nat} {z : List Value} {ps : List (Nat × Nat × Operand)} (h : LA P (⟨d, none, .bslice true a b z ps⟩ :: r) post S As) : LA P (⟨d, none, .bslice true a b z ps⟩ :: r) post S As := h
theorem k_q {g : FuncId} {xs : List Operand} (h : LA P (⟨d, none, .qcall g xs⟩ :: r) post S As) : LA P (⟨d, none, .qcall g xs⟩ :: r) post S As := h
theorem k_c {g : FuncId} {xs : List Operand} (h : LA P (⟨d, none, .call g xs⟩ :: r) post S As) : LA P (⟨d, none, .call g xs⟩ :: r) post S As := h
theorem k_p {s : Nat} {x y : Operand} (h : LA P (⟨d, none, .pick (.tmp s) x y⟩ :: r) post S As) : LA P (⟨d, none, .pick (.tmp s) x y⟩ :: r) post S As := h
end
section
variable {P : Program} {S : St} {As : List Asr} {post : St → List Asr → Prop} {r : List I} {d : Option Nat}
theorem g_ad {x y : Operand} {a b : Int} (hx : ev S x = some (.int .i64 a)) (hy : ev S y = some (.int .i64 b)) (hp : LA P r post (put S d (.v (.int .i64 (a + b)))) As) (hb : -9223372036854775808 ≤ a + b ∧ a + b ≤ 9223372036854775807 := by first | omega | (simp only [HX.hdr, Hdr.s_room, Hdr.s_used, Hdr.s_born, Hdr.s_phase, Hdr.s_hand, Hdr.s_sub, Hdr.s_per, Hdr.s_start, Hdr.s_rounds, Hdr.s_forced, Hdr.s_rd, Hdr.s_cd, Hdr.s_gd, HX.H, List.length_map, List.length_set] at *; omega)) : LA P (⟨d, none, .bin .add x y⟩ :: r) post S As := a_ad hx hy hb hp
theorem g_su {x y : Operand} {a b : Int} (hx : ev S x = some (.int .i64 a)) (hy : ev S y = some (.int .i64 b)) (hp : LA P r post (put S d (.v (.int .i64 (a - b)))) As) (hb : -9223372036854775808 ≤ a - b ∧ a - b ≤ 9223372036854775807 := by first | omega | (simp only [HX.hdr, Hdr.s_room, Hdr.s_used, Hdr.s_born, Hdr.s_phase, Hdr.s_hand, Hdr.s_sub, Hdr.s_per, Hdr.s_start, Hdr.s_rounds, Hdr.s_forced, Hdr.s_rd, Hdr.s_cd, Hdr.s_gd, HX.H, List.length_map, List.length_set] at *; omega)) : LA P (⟨d, none, .bin .sub x y⟩ :: r) post S As := a_su hx hy hb hp
theorem g_ml {x y : Operand} {a b : Int} (hx : ev S x = some (.int .i64 a)) (hy : ev S y = some (.int .i64 b)) (hp : LA P r post (put S d (.v (.int .i64 (a * b)))) As) (hb : -9223372036854775808 ≤ a * b ∧ a * b ≤ 9223372036854775807 := by first | omega | (simp only [HX.hdr, Hdr.s_room, Hdr.s_used, Hdr.s_born, Hdr.s_phase, Hdr.s_hand, Hdr.s_sub, Hdr.s_per, Hdr.s_start, Hdr.s_rounds, Hdr.s_forced, Hdr.s_rd, Hdr.s_cd, Hdr.s_gd, HX.H, List.length_map] at *; omega)) : LA P (⟨d, none, .bin .mul x y⟩ :: r) post S As := a_ml hx hy hb hp
theorem g_i {e : D} {x y : Operand} {size n cap : Nat} {k : IntKind} {i : Int} (hx : ev S x = some (.slice e.a n cap)) (hy : ev S y = some (.int k i)) (hp : LA P r post (put S d (.v (.pointer (some ⟨e.b, e.o + i.toNat * size, none⟩)))) As) (hi : 0 ≤ i ∧ i < n := by first | omega | (simp only [HX.hdr, Hdr.s_room, Hdr.s_used, Hdr.s_born, Hdr.s_phase, Hdr.s_hand, Hdr.s_sub, Hdr.s_per, Hdr.s_start, Hdr.s_rounds, Hdr.s_forced, Hdr.s_rd, Hdr.s_cd, Hdr.s_gd, HX.H, List.length_map, List.length_set] at *; omega))
    (hb : Kn As (e.a = some ⟨e.b, e.o, none⟩) := by (fail_if_success apply kn_bad); (repeat (first | exact kn_h (kn_cl (by assumption)) | exact kn_h (kn_cp (by assumption) (by assumption)) | exact kn_h (bs_sl (by assumption)) | exact kn_h (kn_ro (by assumption) (by (repeat (first | exact kn_h (kn_cl (by assumption)) | exact kn_h (kn_cp (by assumption) (by assumption)) | exact kn_h (bs_sl (by assumption)) | apply kn_t)); fail_if_success focus skip)) | apply kn_t)); fail_if_success focus skip) : LA P (⟨d, none, .iaddr size x y⟩ :: r) post S As := a_i hx hy hb hi hp
theorem g_tk {e : D} {x : Operand} {hi : Option Operand} {size n : Nat} {k : IntKind} {i : Int} (hx : ev S x = some (.slice e.a n e.cap)) (hh : optEv S hi = some (some (.int k i))) (hp : LA P r post (put S d (.v (.slice e.a i.toNat e.cap))) As) (hi0 : 0 ≤ i ∧ i ≤ e.cap := by first | omega | (simp only [HX.hdr, Hdr.s_room, Hdr.s_used, Hdr.s_born, Hdr.s_phase, Hdr.s_hand, Hdr.s_sub, Hdr.s_per, Hdr.s_start, Hdr.s_rounds, Hdr.s_forced, Hdr.s_rd, Hdr.s_cd, Hdr.s_gd, HX.H, List.length_map, List.length_set] at *; omega))
    (hb : Kn As (e.a = none ∨ e.a = some ⟨e.b, e.o, none⟩) := by (fail_if_success apply kn_bad); (repeat (first | exact kn_h (kp_cp (by assumption)) | exact kn_h kp_cl | exact kn_h pl_sl | exact kn_h (kn_ro (by assumption) (by (repeat (first | exact kn_h (kp_cp (by assumption)) | exact kn_h kp_cl | exact kn_h pl_sl | apply kn_t)); fail_if_success focus skip)) | apply kn_t)); fail_if_success focus skip) : LA P (⟨d, none, .slc size x none hi⟩ :: r) post S As := a_tk hx hh hb hi0 hp
theorem g_l {n : Nat} {x : Operand} {b o : Nat} {v : Value} (hx : lc S x = some (.mm b o)) (hp : LA P r post (put S d (.v v)) As) (hv : Rd As b o v := by (fail_if_success apply rd_bad); (repeat (first | exact rd_h (rd_hd rfl) | exact rd_h (rd_bx rfl) | exact rd_h (rd_cl (by assumption) rfl) | exact rd_h (rd_cp (by assumption) (by assumption) rfl) | exact rd_h (r_int (by assumption)) | exact rd_h (r_bool (by assumption)) | exact rd_h (rd_ro (by assumption) (by (repeat (first | exact rd_h (rd_hd rfl) | exact rd_h (rd_cl (by assumption) rfl) | exact rd_h (rd_cp (by assumption) (by assumption) rfl) | exact rd_h (r_int (by assumption)) | apply rd_t)); fail_if_success focus skip)) | apply rd_t)); fail_if_success focus skip) : LA P (⟨d, none, .load true n x⟩ :: r) post S As := a_l hx hv hp
theorem g_ls {n : Nat} {x : Operand} {b o : Nat} {vs : List Value} (hx : lc S x = some (.mm b o)) (hp : LA P r post (put S d (.v (.agg vs.toArray))) As) (hv : Rs As b o n vs := by (fail_if_success apply rs_bad); (repeat (first | exact rs_h rs_hd | exact rs_h (rs_cl (by assumption)) | exact rs_h (rs_cp (by assumption) (by assumption)) | exact rs_h (r_key (by assumption) (by assumption)) | exact rs_h (r_val (by assumption) (by assumption)) | exact rs_h (r_reg (by assumption)) | exact rs_h (rs_ro (by assumption) (by (repeat (first | exact rs_h rs_hd | exact rs_h (rs_cl (by assumption)) | exact rs_h (rs_cp (by assumption) (by assumption)) | exact rs_h (r_key (by assumption) (by assumption)) | exact rs_h (r_val (by assumption) (by assumption)) | exact rs_h (r_reg (by assumption)) | apply rs_t)); fail_if_success focus skip)) | apply rs_t)); fail_if_success focus skip) : LA P (⟨d, none, .load false n x⟩ :: r) post S As := a_ls hx hv hp
theorem g_st {n : Nat} {x y : Operand} {b o : Nat} {v : Value} {As' : List Asr} (hx : lc S x = some (.mm b o)) (hy : ev S y = some v) (hn : v.cells.size = n) (hpl : plainCells v.cells.toList = true) (hp : LA P r post S As') (hu : Up As b o v.cells.toList As' := by (fail_if_success apply up_bad); (repeat (first | exact up_h u_room | exact up_h u_used | exact up_h u_born | exact up_h u_phase | exact up_h u_hand | exact up_h u_sub | exact up_h u_per | exact up_h u_start | exact up_h u_rounds | exact up_h u_forced | exact up_h u_rd | exact up_h u_cd | exact up_h u_gd | exact up_h (u_cstate (by assumption)) | exact up_h (u_ckind (by assumption)) | exact up_h (u_cweak (by assumption)) | exact up_h (u_clast (by assumption)) | exact up_h (u_cborn (by assumption)) | exact up_h (u_ccolor (by assumption)) | exact up_h (u_cto (by assumption)) | exact up_h (u_key (by assumption) (by assumption)) | exact up_h (u_val (by assumption) (by assumption)) | exact up_h (u_reg (by assumption)) | exact up_h (u_regat (by assumption)) | exact up_h (u_int (by assumption)) | exact up_h (u_bool (by assumption)) | apply up_t)); fail_if_success focus skip) :
    LA P (⟨d, none, .store n x y⟩ :: r) post S As := a_st hx hy hn hpl hu hp
theorem g_sw {n : Nat} {x y : Operand} {s o : Nat} {cs : List Value} {v : Value} (hx : lc S x = some (.bx s o)) (hb : S s = .box cs) (hy : ev S y = some v) (hn : v.cells.size = n) (hle : o + n ≤ cs.length)
    (hw : WrK cs o v.cells.toList (fun cs' => LA P r post (upF S s (.box cs')) As)) (hpl : plainCells v.cells.toList = true := by first | rfl | assumption) : LA P (⟨d, none, .store n x y⟩ :: r) post S As := a_sw hx hb hy hn hpl hle hw
theorem g_c {g : FuncId} {xs : List Operand} {args : List Value} {As1 F : List Asr} {q : Value → List Asr → Prop} (hx : evs S xs = some args) (hq : FnA P g args As1 q) (hp : ∀ v As', q v As' → LA P r post (put S d (.v v)) (As' ++ F)) (hm : Pm As As1 F := by (fail_if_success apply pm_bad); (repeat (first | exact pm_nil | (apply pm_cons; repeat (first | exact pk_h | apply pk_t)))); fail_if_success focus skip) :
    LA P (⟨d, none, .call g xs⟩ :: r) post S As := a_c hx hq hm hp
/-- one element appended -/
theorem g_ap {α : Type} {f : α → List Value} {size bytes : Nat} {z : List Value} {xs : List α} {e : D} {R : List Asr} {t : Nat} {cs : List Value} {s : Operand} (y : α) (hs : ∀ x, (f x).length = size) (hv : ev S s = some (.slice e.a xs.length e.cap)) (ht : S t = .bsl cs 1) (hc : cs = f y) (h0 : 0 < size ∧ 0 < bytes)
    (hp : ∀ e' : D, LA P r post (put S d (.v (.slice e'.a (xs ++ [y]).length e'.cap))) (slA size f e' (xs ++ [y]) :: R)) (hpl : plainCells cs = true := by first | rfl | assumption) (hb : ((xs.length : Int) + 1) * bytes ≤ 140737488355328 := by omega)
    (hm : Pk As (slA size f e xs) R := by (fail_if_success apply pk_bad); (repeat (first | exact pk_h | apply pk_t)); fail_if_success focus skip) : LA P (⟨d, none, .app size bytes z s (.tmp t)⟩ :: r) post S As :=
  a_ap [y] hm hs h0 hv ht (by rw [hc]; simp) rfl hpl hb hp
theorem g_ai {bytes : Nat} {z : List Value} {xs : List Int} {e : D} {R : List Asr} {t : Nat} {y : Int} {s : Operand} (hv : ev S s = some (.slice e.a xs.length e.cap)) (ht : S t = .bsl [.int .i64 y] 1) (h0 : 0 < bytes)
    (hp : ∀ e' : D, LA P r post (put S d (.v (.slice e'.a (xs ++ [y]).length e'.cap))) (slA 1 iv e' (xs ++ [y]) :: R)) (hb : ((xs.length : Int) + 1) * bytes ≤ 140737488355328 := by omega)
    (hm : Pk As (slA 1 iv e xs) R := by (fail_if_success apply pk_bad); (repeat (first | exact pk_h | apply pk_t)); fail_if_success focus skip) : LA P (⟨d, none, .app 1 bytes z s (.tmp t)⟩ :: r) post S As :=
  a_ap [y] hm iv_len ⟨by omega, h0⟩ hv ht rfl rfl rfl hb hp
/-- .. into a heap that is named -/
theorem fin {a : Nat} {h : Hdr} {regs : List Word} {xs : List CS} {gray : List Int} {F : List Asr} (y : HX) (hm : Pm As [hdA a h, slA 3 wv h.rd regs, clA h.cd xs, slA 1 iv h.gd gray] F := by (fail_if_success apply pm_bad); (repeat (first | exact pm_nil | (apply pm_cons; repeat (first | exact pk_h | apply pk_t)))); fail_if_success focus skip) (e1 : h = { y.hdr with nr := h.nr, nc := h.nc, ng := h.ng } := by rfl)
    (h1 : h.nr = regs.length := by first | rfl | (simp [HX.hdr, Hdr.s_room, Hdr.s_used, Hdr.s_born, Hdr.s_phase, Hdr.s_hand, Hdr.s_sub, Hdr.s_per, Hdr.s_start, Hdr.s_rounds, Hdr.s_forced, Hdr.s_rd, Hdr.s_cd, Hdr.s_gd]; done)) (h2 : h.nc = xs.length := by first | rfl | (simp [HX.hdr, Hdr.s_room, Hdr.s_used, Hdr.s_born, Hdr.s_phase, Hdr.s_hand, Hdr.s_sub, Hdr.s_per, Hdr.s_start, Hdr.s_rounds, Hdr.s_forced, Hdr.s_rd, Hdr.s_cd, Hdr.s_gd]; done)) (h3 : h.ng = gray.length := by first | rfl | (simp [HX.hdr, Hdr.s_room, Hdr.s_used, Hdr.s_born, Hdr.s_phase, Hdr.s_hand, Hdr.s_sub, Hdr.s_per, Hdr.s_start, Hdr.s_rounds, Hdr.s_forced, Hdr.s_rd, Hdr.s_cd, Hdr.s_gd]; done)) (e2 : regs = y.regs := by rfl) (e3 : xs = y.xs := by rfl) (e4 : gray = y.gray := by rfl) : Pm As (hp a y) F := by
  subst e2; subst e3; subst e4
  have e : h = y.hdr := by rw [e1, h1, h2, h3]; rfl
  subst e; exact hm
end
end Go.Proofs.Ytcmllambknfleaa.E
set_option linter.unusedVariables false
set_option linter.unusedSimpArgs false
set_option maxHeartbeats 4000000
namespace Go.Proofs.Ytcmllambknfleaa.E
open Go
section
variable {E : Env} {Q : X → St → List Asr → Prop} {S : St} {As : List Asr}
theorem blk_eq {id e : Nat} (h : e = id) (hq : Q .nrm S As) : blkA id Q (.ext e) S As := by subst h; exact b_e hq
theorem blk_ne {id e : Nat} (h : e ≠ id) (hq : Q (.ext e) S As) : blkA id Q (.ext e) S As := by unfold blkA; simp only [if_neg h]; exact hq
theorem v_rv {d : Option Nat} {v : Value} (h : Q .ret (put S d (.v v)) As) : VA E (.seq (.reg [⟨d, none, .mov (.const v)⟩]) .ret) Q S As := v_seq (v_reg (a_p (sv := .v v) rfl (a_n (v_ret h))))
theorem v_bs {id : Nat} {a b : C} (h : VA E (.seq a b) (blkA id Q) S As) : VA E (.block id (.seq a b)) Q S As := v_blk h
theorem v_br {id : Nat} {l : List I} (h : VA E (.reg l) (blkA id Q) S As) : VA E (.block id (.reg l)) Q S As := v_blk h
theorem v_bd {id n : Nat} {l : List I} (h : VA E (.dreg n l) (blkA id Q) S As) : VA E (.block id (.dreg n l)) Q S As := v_blk h
theorem v_bc {id : Nat} {x : Operand} {a b : C} (h : VA E (.cond x a b) (blkA id Q) S As) : VA E (.block id (.cond x a b)) Q S As := v_blk h
theorem v_bk {id : Nat} (h : VA E .skip (blkA id Q) S As) : VA E (.block id .skip) Q S As := v_blk h
theorem v_bb {id id' : Nat} {c : C} (h : VA E (.block id' c) (blkA id Q) S As) : VA E (.block id (.block id' c)) Q S As := v_blk h
theorem leA_up {d : Nat} {x : SV} : ∀ {l : List (Nat × SV)} {S : St}, (l.all fun p => !Nat.beq p.1 d) = true → leA l S → leA l (upF S d x)
  | [], _, _, _ => trivial
  | (e, y) :: r, S, h, hl => by
    simp only [List.all_cons, Bool.and_eq_true, Bool.not_eq_true'] at h
    refine ⟨?_, leA_up h.2 hl.2⟩
    show (bif Nat.beq e d then x else S e) = y
    rw [h.1]; exact hl.1
/-- what the body of a range is asked for -/
def rngQ {α : Type} (b b' ti tn n : Nat) (T : α → List (Nat × SV)) (At : α → List Asr) (Inv : Nat → α → Prop) (i : Nat) (Q : X → St → List Asr → Prop) : X → St → List Asr → Prop
  | .nrm, S', As' => ∃ x', leA ((ti, .v (.int .i64 i)) :: (tn, .v (.int .i64 n)) :: T x') S' ∧ Ent As' (At x') ∧ Inv (i + 1) x'
  | .ext e, S', As' => if e = b' then ∃ x', leA ((ti, .v (.int .i64 i)) :: (tn, .v (.int .i64 n)) :: T x') S' ∧ Ent As' (At x') ∧ Inv (i + 1) x' else if e = b then Q .nrm S' As' else Q (.ext e) S' As'
  | .ret, S', As' => Q .ret S' As'
theorem v_range {α : Type} {body : C} {ti tn tc tu b b' : Nat} (n : Nat) (T : α → List (Nat × SV)) (At : α → List Asr) (Inv : Nat → α → Prop)
    (h0 : ∃ x, leA ((ti, .v (.int .i64 0)) :: (tn, .v (.int .i64 n)) :: T x) S ∧ Ent As (At x) ∧ Inv 0 x) (hn : (n : Int) ≤ 4611686018427387904)
    (hT : ∀ x, ((T x).all fun p => !Nat.beq p.1 ti && !Nat.beq p.1 tc && !Nat.beq p.1 tu) = true) (hd : (!Nat.beq ti tc && !Nat.beq tn tc && !Nat.beq ti tu && !Nat.beq tn tu && !Nat.beq tn ti) = true)
    (hb : ∀ i x, i < n → Inv i x → VA E body (rngQ b b' ti tn n T At Inv i Q) (ofL ((ti, .v (.int .i64 i)) :: (tn, .v (.int .i64 n)) :: T x)) (At x))
    (he : ∀ x, Inv n x → Q .nrm (upF (ofL ((ti, .v (.int .i64 n)) :: (tn, .v (.int .i64 n)) :: T x)) tc (.v (.bool (decide ((n : Int) < n))))) (At x)) :
    VA E (.block b (.loop (.seq (.reg [⟨some tc, none, .bin .lss (.tmp ti) (.tmp tn)⟩]) (.seq (.cond (.tmp tc) .skip (.exit b)) (.seq (.block b' body) (.reg [⟨some tu, none, .bin .add (.tmp ti) (.const (.int .i64 1))⟩, ⟨some ti, none, .mov (.tmp tu)⟩])))))) Q S As := by
  simp only [Bool.and_eq_true, Bool.not_eq_true'] at hd
  obtain ⟨⟨⟨⟨d1, d2⟩, d3⟩, d4⟩, d5⟩ := hd
  have d5' : Nat.beq ti tn = false := by
    cases h : Nat.beq ti tn with
    | false => rfl
    | true => rw [Nat.eq_of_beq_eq_true h] at d5; simp at d5
  have hT1 : ∀ x, ((T x).all fun p => !Nat.beq p.1 ti) = true := fun x => List.all_eq_true.2 fun p hp => by
    have := List.all_eq_true.1 (hT x) p hp; simp only [Bool.and_eq_true] at this; exact this.1.1
  have hT2 : ∀ x, ((T x).all fun p => !Nat.beq p.1 tc) = true := fun x => List.all_eq_true.2 fun p hp => by
    have := List.all_eq_true.1 (hT x) p hp; simp only [Bool.and_eq_true] at this; exact this.1.2
  have hT3 : ∀ x, ((T x).all fun p => !Nat.beq p.1 tu) = true := fun x => List.all_eq_true.2 fun p hp => by
    have := List.all_eq_true.1 (hT x) p hp; simp only [Bool.and_eq_true] at this; exact this.2
  refine v_blk ?_
  obtain ⟨x0, g1, g2, g3⟩ := h0
  refine v_loop (fun p : Nat × α => (ti, .v (.int .i64 p.1)) :: (tn, .v (.int .i64 n)) :: T p.2) (fun p => At p.2) (fun k p => k = n - p.1 ∧ p.1 ≤ n ∧ Inv p.1 p.2) ⟨_, (0, x0), g1, g2, rfl, Nat.zero_le _, g3⟩ ?_
  rintro k ⟨i, x⟩ ⟨rfl, hi, hinv⟩
  simp only at hi hinv ⊢
  have e1 : ofL ((ti, .v (.int .i64 (i : Int))) :: (tn, .v (.int .i64 (n : Int))) :: T x) ti = .v (.int .i64 i) := by show upF _ ti _ ti = _; rw [upF_eq, if_pos rfl]
  have e2 : ofL ((ti, .v (.int .i64 (i : Int))) :: (tn, .v (.int .i64 (n : Int))) :: T x) tn = .v (.int .i64 n) := by
    show (bif Nat.beq tn ti then _ else upF _ tn _ tn) = _
    rw [d5]; show upF _ tn _ tn = _; rw [upF_eq, if_pos rfl]
  have hl0 : leF (ofL ((ti, .v (.int .i64 (i : Int))) :: (tn, .v (.int .i64 (n : Int))) :: T x)) (upF (ofL ((ti, .v (.int .i64 (i : Int))) :: (tn, .v (.int .i64 (n : Int))) :: T x)) tc (.v (.bool (decide ((i : Int) < n))))) := by
    intro t
    rw [upF_eq]
    by_cases e : t = tc
    · left
      subst e
      show (bif Nat.beq t ti then _ else bif Nat.beq t tn then _ else ofL (T x) t) = _
      have a1 : Nat.beq t ti = false := by
        cases h : Nat.beq t ti with
        | false => rfl
        | true => rw [Nat.eq_of_beq_eq_true h] at d1; simp at d1
      have a2 : Nat.beq t tn = false := by
        cases h : Nat.beq t tn with
        | false => rfl
        | true => rw [Nat.eq_of_beq_eq_true h] at d2; simp at d2
      rw [a1, a2]
      show ofL (T x) t = .junk
      have : ∀ l : List (Nat × SV), (l.all fun p => !Nat.beq p.1 t) = true → ofL l t = .junk := by
        intro l
        induction l with
        | nil => intro _; rfl
        | cons p r ih =>
          intro h
          simp only [List.all_cons, Bool.and_eq_true, Bool.not_eq_true'] at h
          show (bif Nat.beq t p.1 then p.2 else ofL r t) = _
          have : Nat.beq t p.1 = false := by
            cases h' : Nat.beq t p.1 with
            | false => rfl
            | true => rw [Nat.eq_of_beq_eq_true h'] at h; simp at h
          rw [this]; exact ih h.2
      exact this _ (hT2 x)
    · right; rw [if_neg e]
  refine v_seq (v_reg (a_p (sv := .v (.bool (decide ((i : Int) < n)))) ?_ (a_n ?_)))
  · simp only [pe, ev, e1, e2]; rfl
  refine v_seq (v_cond (decide ((i : Int) < n)) ?_ (fun h => ?_) (fun h => ?_))
  · show ev (upF _ tc _) (.tmp tc) = _
    simp only [ev]
    rw [upF_eq, if_pos rfl]
  · have hin : i < n := by have := of_decide_eq_true h; omega
    refine v_skip ?_
    show VA E _ _ _ _
    refine v_seq (v_blk ?_)
    refine ⟨fun m hm => ?_⟩
    have hbody := (hb i x hin hinv).out m hm
    refine VC.mono (Q := upQ (rngQ b b' ti tn n T At Inv i Q)) ?_ ?_
    · exact ⟨fun code ht hmx W0 M0 β a w hR => hbody.out code ht hmx W0 M0 β a w (hR.weak hl0)⟩
    · rintro y S' M' ⟨As', m', l, s, hq'⟩
      refine ⟨As', m', l, s, ?_⟩
      have done : (∃ x', leA ((ti, .v (.int .i64 i)) :: (tn, .v (.int .i64 n)) :: T x') S' ∧ Ent As' (At x') ∧ Inv (i + 1) x') →
          VA E (.reg [⟨some tu, none, .bin .add (.tmp ti) (.const (.int .i64 1))⟩, ⟨some ti, none, .mov (.tmp tu)⟩]) (seqA (fun S' As' => ∃ k' x', k' < n - i ∧ leA ((ti, .v (.int .i64 (x' : Nat × α).1)) :: (tn, .v (.int .i64 n)) :: T x'.2) S' ∧ Ent As' (At x'.2) ∧ k' = n - x'.1 ∧ x'.1 ≤ n ∧ Inv x'.1 x'.2) (blkA b Q)) S' As' := by
        rintro ⟨x', h1, h2, h3⟩
        refine v_reg (a_ad (a := i) (b := 1) ?_ rfl (by omega) (a_p (sv := .v (.int .i64 ((i : Int) + 1))) ?_ (a_n ?_)))
        · simp only [ev, h1.1]
        · show Option.map SV.v (ev (upF S' tu _) (.tmp tu)) = _
          simp only [ev]
          rw [upF_eq, if_pos rfl]; rfl
        · refine ⟨n - (i + 1), (i + 1, x'), by omega, ⟨?_, ?_, ?_⟩, h2, rfl, by simp only; omega, h3⟩
          · show upF _ ti _ ti = _; rw [upF_eq, if_pos rfl]; rfl
          · show (bif Nat.beq tn ti then _ else bif Nat.beq tn tu then _ else S' tn) = _
            rw [d5, d4]; exact h1.2.1
          · exact leA_up (hT1 x') (leA_up (hT3 x') h1.2.2)
      cases y with
      | nrm => exact done hq'
      | ret => exact hq'
      | ext e =>
        simp only [rngQ] at hq'
        by_cases h1 : e = b'
        · rw [if_pos h1] at hq'; exact blk_eq h1 (done hq')
        · rw [if_neg h1] at hq'
          refine blk_ne h1 ?_
          show blkA b Q (.ext e) S' As'
          by_cases h2 : e = b
          · rw [if_pos h2] at hq'; exact blk_eq h2 hq'
          · rw [if_neg h2] at hq'; exact blk_ne h2 hq'
  · have hin : i = n := by have := of_decide_eq_false h; omega
    subst hin
    refine v_exit ?_
    refine blk_eq rfl ?_
    exact he x hinv
section
variable {α : Type} {b b' ti tn n : Nat} {T : α → List (Nat × SV)} {At : α → List Asr} {Inv : Nat → α → Prop} {i : Nat}
theorem r_nx (x' : α) (hi : Inv (i + 1) x') (hl : leA ((ti, .v (.int .i64 i)) :: (tn, .v (.int .i64 n)) :: T x') S := by repeat (first | exact trivial | refine ⟨rfl, ?_⟩)) (he : Ent As (At x') := by first | exact Ent.refl _ | exact Pm.ent (by (fail_if_success apply pm_bad); (repeat (first | exact pm_nil | (apply pm_cons; repeat (first | exact pk_h | apply pk_t)))); fail_if_success focus skip)) : rngQ b b' ti tn n T At Inv i Q .nrm S As := ⟨x', hl, he, hi⟩
theorem r_ct (x' : α) (hi : Inv (i + 1) x') (hl : leA ((ti, .v (.int .i64 i)) :: (tn, .v (.int .i64 n)) :: T x') S := by repeat (first | exact trivial | refine ⟨rfl, ?_⟩)) (he : Ent As (At x') := by first | exact Ent.refl _ | exact Pm.ent (by (fail_if_success apply pm_bad); (repeat (first | exact pm_nil | (apply pm_cons; repeat (first | exact pk_h | apply pk_t)))); fail_if_success focus skip)) : rngQ b b' ti tn n T At Inv i Q (.ext b') S As := by
  show (if b' = b' then _ else _); rw [if_pos rfl]; exact ⟨x', hl, he, hi⟩
theorem r_rt (h : Q .ret S As) : rngQ b b' ti tn n T At Inv i Q .ret S As := h
theorem r_bk (hb : Nat.beq b b' = false) (h : Q .nrm S As) : rngQ b b' ti tn n T At Inv i Q (.ext b) S As := by
  have hne : b ≠ b' := fun e => by rw [e] at hb; simp at hb
  show (if b = b' then _ else if b = b then _ else _); rw [if_neg hne, if_pos rfl]; exact h
theorem r_ex {e : Nat} (h1 : Nat.beq e b' = false) (h2 : Nat.beq e b = false) (h : Q (.ext e) S As) : rngQ b b' ti tn n T At Inv i Q (.ext e) S As := by
  have n1 : e ≠ b' := fun e' => by rw [e'] at h1; simp at h1
  have n2 : e ≠ b := fun e' => by rw [e'] at h2; simp at h2
  show (if e = b' then _ else if e = b then _ else _); rw [if_neg n1, if_neg n2]; exact h
end
theorem g_range {α : Type} {body : C} {ti tn tc tu b b' : Nat} (n : Nat) (T : α → List (Nat × SV)) (At : α → List Asr) (Inv : Nat → α → Prop) (x0 : α) (hi : Inv 0 x0)
    (hb : ∀ i x, i < n → Inv i x → VA E body (rngQ b b' ti tn n T At Inv i Q) (ofL ((ti, .v (.int .i64 i)) :: (tn, .v (.int .i64 n)) :: T x)) (At x))
    (he : ∀ x, Inv n x → Q .nrm (upF (ofL ((ti, .v (.int .i64 n)) :: (tn, .v (.int .i64 n)) :: T x)) tc (.v (.bool (decide ((n : Int) < n))))) (At x))
    (hl : leA ((ti, .v (.int .i64 0)) :: (tn, .v (.int .i64 n)) :: T x0) S := by repeat (first | exact trivial | refine ⟨rfl, ?_⟩)) (hent : Ent As (At x0) := by first | exact Ent.refl _ | exact Pm.ent (by (fail_if_success apply pm_bad); (repeat (first | exact pm_nil | (apply pm_cons; repeat (first | exact pk_h | apply pk_t)))); fail_if_success focus skip)) (hn : (n : Int) ≤ 4611686018427387904 := by first | omega | (simp only [HX.hdr, Hdr.s_room, Hdr.s_used, Hdr.s_born, Hdr.s_phase, Hdr.s_hand, Hdr.s_sub, Hdr.s_per, Hdr.s_start, Hdr.s_rounds, Hdr.s_forced, Hdr.s_rd, Hdr.s_cd, Hdr.s_gd]; omega))
    (hT : ∀ x, ((T x).all fun p => !Nat.beq p.1 ti && !Nat.beq p.1 tc && !Nat.beq p.1 tu) = true := by intro _; rfl) (hd : (!Nat.beq ti tc && !Nat.beq tn tc && !Nat.beq ti tu && !Nat.beq tn tu && !Nat.beq tn ti) = true := by rfl) :
    VA E (.block b (.loop (.seq (.reg [⟨some tc, none, .bin .lss (.tmp ti) (.tmp tn)⟩]) (.seq (.cond (.tmp tc) .skip (.exit b)) (.seq (.block b' body) (.reg [⟨some tu, none, .bin .add (.tmp ti) (.const (.int .i64 1))⟩, ⟨some ti, none, .mov (.tmp tu)⟩])))))) Q S As :=
  v_range n T At Inv ⟨x0, hl, hent, hi⟩ hn hT hd hb he
/-- a place where ways meet: what is known there of slots and pieces -/
def Jx {α : Type} (T : α → List (Nat × SV)) (At : α → List Asr) (Inv : α → Prop) : St → List Asr → Prop := fun S As => ∃ x, leA (T x) S ∧ Ent As (At x) ∧ Inv x
theorem j_i {α : Type} {T : α → List (Nat × SV)} {At : α → List Asr} {Inv : α → Prop} (x : α) (hi : Inv x) (hl : leA (T x) S := by repeat (first | exact trivial | refine ⟨rfl, ?_⟩)) (he : Ent As (At x) := by first | exact Ent.refl _ | exact Pm.ent (by (fail_if_success apply pm_bad); (repeat (first | exact pm_nil | (apply pm_cons; repeat (first | exact pk_h | apply pk_t)))); fail_if_success focus skip)) : Jx T At Inv S As := ⟨x, hl, he, hi⟩
theorem g_cut {α : Type} {a b : C} (T : α → List (Nat × SV)) (At : α → List Asr) (Inv : α → Prop) (h1 : VA E a (seqA (Jx T At Inv) Q) S As) (h2 : ∀ x, Inv x → VA E b Q (ofL (T x)) (At x)) : VA E (.seq a b) Q S As :=
  v_cut _ h1 fun S As ⟨x, hl, he, hi⟩ => v_weak _ hl (VA.ent he (h2 x hi))
end
end Go.Proofs.Ytcmllambknfleaa.E
set_option maxRecDepth 100000
set_option linter.unusedVariables false
namespace Go.Proofs.Ytcmllambknfleaa.E
open Go
noncomputable def e95 : Env := ⟨Try.prog, [], 97, []⟩
noncomputable def c95 : C :=
  .seq (.reg [
    ⟨some 2, none, .mov (.const (.bool false))⟩]) (.seq (.reg [
    ⟨some 4, none, .mov (.tmp 0)⟩,
    ⟨some 5, none, .nilCheck (.tmp 4)⟩,
    ⟨some 6, none, .faddr 4 (.tmp 5)⟩,
    ⟨some 7, none, .load true 1 (.tmp 6)⟩,
    ⟨some 8, none, .lenS (.tmp 7)⟩,
    ⟨some 3, none, .mov (.tmp 8)⟩]) (.seq (.reg [
    ⟨some 9, none, .mov (.tmp 0)⟩,
    ⟨some 10, none, .nilCheck (.tmp 9)⟩,
    ⟨some 11, none, .faddr 0 (.tmp 10)⟩,
    ⟨some 12, none, .load true 1 (.tmp 11)⟩,
    ⟨some 13, none, .call 71 [.tmp 12, .const (.int .i64 1), .const (.int .i64 4000)]⟩,
    ⟨some 14, none, .mov (.tmp 13)⟩,
    ⟨some 15, some (14, true), .mov (.tmp 0)⟩,
    ⟨some 16, some (14, true), .nilCheck (.tmp 15)⟩,
    ⟨some 17, some (14, true), .faddr 3 (.tmp 16)⟩,
    ⟨some 18, some (14, true), .load true 1 (.tmp 17)⟩,
    ⟨some 19, some (14, true), .lenS (.tmp 18)⟩,
    ⟨some 20, some (14, true), .bin .eql (.tmp 19) (.const (.int .i64 16))⟩,
    ⟨some 21, none, .pick (.tmp 14) (.tmp 20) (.const (.bool false))⟩,
    ⟨some 22, none, .mov (.tmp 21)⟩,
    ⟨some 23, some (22, true), .mov (.tmp 3)⟩,
    ⟨some 24, some (22, true), .mov (.tmp 0)⟩,
    ⟨some 25, some (22, true), .nilCheck (.tmp 24)⟩,
    ⟨some 26, some (22, true), .faddr 0 (.tmp 25)⟩,
    ⟨some 27, some (22, true), .load true 1 (.tmp 26)⟩,
    ⟨some 28, some (22, true), .bin .mul (.const (.int .i64 2)) (.tmp 27)⟩,
    ⟨some 29, some (22, true), .bin .leq (.tmp 23) (.tmp 28)⟩,
    ⟨some 30, none, .pick (.tmp 22) (.tmp 29) (.const (.bool false))⟩,
    ⟨some 31, none, .mov (.tmp 30)⟩,
    ⟨some 32, some (31, true), .mov (.tmp 0)⟩,
    ⟨some 33, some (31, true), .nilCheck (.tmp 32)⟩,
    ⟨some 34, some (31, true), .faddr 8 (.tmp 33)⟩,
    ⟨some 35, some (31, true), .load true 1 (.tmp 34)⟩,
    ⟨some 36, some (31, true), .lenS (.tmp 35)⟩,
    ⟨some 37, some (31, true), .mov (.tmp 3)⟩,
    ⟨some 38, some (31, true), .bin .leq (.tmp 36) (.tmp 37)⟩,
    ⟨some 39, none, .pick (.tmp 31) (.tmp 38) (.const (.bool false))⟩,
    ⟨some 40, none, .mov (.tmp 39)⟩,
    ⟨some 41, some (40, true), .mov (.tmp 0)⟩,
    ⟨some 42, some (40, true), .nilCheck (.tmp 41)⟩,
    ⟨some 43, some (40, true), .faddr 2 (.tmp 42)⟩,
    ⟨some 44, some (40, true), .load true 1 (.tmp 43)⟩,
    ⟨some 45, some (40, true), .call 71 [.tmp 44, .const (.int .i64 0), .const (.int .i64 1000000000)]⟩,
    ⟨some 46, none, .pick (.tmp 40) (.tmp 45) (.const (.bool false))⟩,
    ⟨some 47, none, .mov (.tmp 46)⟩,
    ⟨some 48, some (47, true), .mov (.tmp 0)⟩,
    ⟨some 49, some (47, true), .nilCheck (.tmp 48)⟩,
    ⟨some 50, some (47, true), .faddr 11 (.tmp 49)⟩,
    ⟨some 51, some (47, true), .load true 1 (.tmp 50)⟩,
    ⟨some 52, some (47, true), .call 71 [.tmp 51, .const (.int .i64 0), .const (.int .i64 1000000000)]⟩,
    ⟨some 53, none, .pick (.tmp 47) (.tmp 52) (.const (.bool false))⟩,
    ⟨some 54, none, .mov (.tmp 53)⟩,
    ⟨some 55, some (54, true), .mov (.tmp 0)⟩,
    ⟨some 56, some (54, true), .nilCheck (.tmp 55)⟩,
    ⟨some 57, some (54, true), .faddr 12 (.tmp 56)⟩,
    ⟨some 58, some (54, true), .load true 1 (.tmp 57)⟩,
    ⟨some 59, some (54, true), .call 71 [.tmp 58, .const (.int .i64 0), .const (.int .i64 1000000000)]⟩,
    ⟨some 60, none, .pick (.tmp 54) (.tmp 59) (.const (.bool false))⟩,
    ⟨some 61, none, .mov (.tmp 60)⟩,
    ⟨some 62, some (61, true), .mov (.tmp 0)⟩,
    ⟨some 63, some (61, true), .nilCheck (.tmp 62)⟩,
    ⟨some 64, some (61, true), .faddr 9 (.tmp 63)⟩,
    ⟨some 65, some (61, true), .load true 1 (.tmp 64)⟩,
    ⟨some 66, some (61, true), .call 71 [.tmp 65, .const (.int .i64 0), .const (.int .i64 64)]⟩,
    ⟨some 67, none, .pick (.tmp 61) (.tmp 66) (.const (.bool false))⟩,
    ⟨some 68, none, .mov (.tmp 67)⟩,
    ⟨some 69, some (68, true), .mov (.tmp 0)⟩,
    ⟨some 70, some (68, true), .nilCheck (.tmp 69)⟩,
    ⟨some 71, some (68, true), .faddr 10 (.tmp 70)⟩,
    ⟨some 72, some (68, true), .load true 1 (.tmp 71)⟩,
    ⟨some 73, some (68, true), .call 71 [.tmp 72, .const (.int .i64 0), .const (.int .i64 4000)]⟩,
    ⟨some 74, none, .pick (.tmp 68) (.tmp 73) (.const (.bool false))⟩,
    ⟨some 75, none, .mov (.tmp 74)⟩,
    ⟨some 76, some (75, true), .mov (.tmp 0)⟩,
    ⟨some 77, some (75, true), .nilCheck (.tmp 76)⟩,
    ⟨some 78, some (75, true), .faddr 5 (.tmp 77)⟩,
    ⟨some 79, some (75, true), .load true 1 (.tmp 78)⟩,
    ⟨some 80, some (75, true), .call 71 [.tmp 79, .const (.int .i64 0), .const (.int .i64 6)]⟩,
    ⟨some 81, none, .pick (.tmp 75) (.tmp 80) (.const (.bool false))⟩,
    ⟨some 82, none, .mov (.tmp 81)⟩,
    ⟨some 83, some (82, true), .mov (.tmp 0)⟩,
    ⟨some 84, some (82, true), .nilCheck (.tmp 83)⟩,
    ⟨some 85, some (82, true), .faddr 6 (.tmp 84)⟩,
    ⟨some 86, some (82, true), .load true 1 (.tmp 85)⟩,
    ⟨some 87, some (82, true), .mov (.tmp 3)⟩,
    ⟨some 88, some (82, true), .call 71 [.tmp 86, .const (.int .i64 0), .tmp 87]⟩,
    ⟨some 89, none, .pick (.tmp 82) (.tmp 88) (.const (.bool false))⟩,
    ⟨some 90, none, .mov (.tmp 89)⟩,
    ⟨some 91, some (90, true), .mov (.tmp 0)⟩,
    ⟨some 92, some (90, true), .nilCheck (.tmp 91)⟩,
    ⟨some 93, some (90, true), .faddr 7 (.tmp 92)⟩,
    ⟨some 94, some (90, true), .load true 1 (.tmp 93)⟩,
    ⟨some 95, some (90, true), .call 71 [.tmp 94, .const (.int .i64 0), .const (.int .i64 200)]⟩,
    ⟨some 96, none, .pick (.tmp 90) (.tmp 95) (.const (.bool false))⟩,
    ⟨some 2, none, .mov (.tmp 96)⟩]) (.ret)))
theorem t95 : Try.f95.body.bind (trC e95) = some c95 := by kernel_rfl
theorem r95 : Try.f95.results.toList.mapM (trR Try.prog) = some [.tmp 2] := by kernel_rfl
theorem fn95 {args : List Value} {M : Mem} {post : Value → Mem → Prop} (hl : args.length ≤ 97) (h : VC e95 c95 (fnQ [.tmp 2] post) (initS args 97) M) : Fn Try.prog 95 args M post :=
  Fn.of' (E := e95) Try.func95 t95 rfl r95 mixed hl h
noncomputable def e96 : Env := ⟨Try.prog, [6], 150, [(11, 36), (20, 49)]⟩
noncomputable def c96 : C :=
  .seq (.reg [
    ⟨some 2, none, .mov (.const (.bool false))⟩]) (.seq (.reg [
    ⟨some 8, none, .mkmap⟩,
    ⟨some 9, none, .mkmap⟩,
    ⟨some 3, none, .mov (.tmp 8)⟩,
    ⟨some 4, none, .mov (.tmp 9)⟩]) (.seq (.seq (.reg [
    ⟨some 10, none, .mov (.tmp 0)⟩,
    ⟨some 11, none, .nilCheck (.tmp 10)⟩,
    ⟨some 12, none, .faddr 4 (.tmp 11)⟩,
    ⟨some 13, none, .load true 1 (.tmp 12)⟩,
    ⟨some 14, none, .lenS (.tmp 13)⟩,
    ⟨some 15, none, .mov (.const (.int .i64 0))⟩]) (.block 0 (.loop (.seq (.reg [
    ⟨some 16, none, .bin .lss (.tmp 15) (.tmp 14)⟩]) (.seq (.cond (.tmp 16) (.skip) (.exit 0)) (.seq (.block 1 (.seq (.reg [
    ⟨some 17, none, .mov (.tmp 15)⟩,
    ⟨some 18, none, .iaddr 8 (.tmp 13) (.tmp 15)⟩,
    ⟨some 19, none, .load false 8 (.tmp 18)⟩,
    ⟨some 6, none, .alloc true [.int .i64 0, .int .i64 0, .int .i64 0, .int .i64 0, .int .i64 0, .int .i64 0, .int .i64 0, .slice none 0 0]⟩,
    ⟨some 5, none, .mov (.tmp 17)⟩,
    ⟨none, none, .store 8 (.tmp 6) (.tmp 19)⟩]) (.seq (.reg [
    ⟨some 20, none, .faddr 0 (.tmp 6)⟩,
    ⟨some 21, none, .load true 1 (.tmp 20)⟩]) (.block 2 (.seq (.reg [
    ⟨some 23, none, .bin .eql (.tmp 21) (.const (.int .i64 0))⟩,
    ⟨some 22, none, .mov (.tmp 23)⟩]) (.cond (.tmp 22) (.seq (.reg [
    ⟨some 24, none, .load false 8 (.tmp 6)⟩,
    ⟨some 25, none, .call 141 [.tmp 24]⟩,
    ⟨some 26, none, .not (.tmp 25)⟩,
    ⟨some 27, none, .mov (.tmp 26)⟩,
    ⟨some 28, some (27, false), .faddr 6 (.tmp 6)⟩,
    ⟨some 29, some (27, false), .load true 1 (.tmp 28)⟩,
    ⟨some 30, some (27, false), .bin .neq (.tmp 29) (.const (.int .i64 0))⟩,
    ⟨some 31, none, .pick (.tmp 27) (.const (.bool true)) (.tmp 30)⟩]) (.cond (.tmp 31) (.seq (.reg [
    ⟨some 2, none, .mov (.const (.bool false))⟩]) (.ret)) (.skip))) (.seq (.reg [
    ⟨some 33, none, .bin .eql (.tmp 21) (.const (.int .i64 2))⟩,
    ⟨some 32, none, .mov (.tmp 33)⟩]) (.cond (.tmp 32) (.seq (.seq (.dreg 36 [
    ⟨some 34, none, .load false 8 (.tmp 6)⟩,
    ⟨some 35, none, .qcall 141 [.tmp 34]⟩,
    ⟨some 36, none, .not (.tmp 35)⟩,
    ⟨some 37, none, .mov (.tmp 36)⟩,
    ⟨some 38, some (37, false), .mov (.tmp 0)⟩,
    ⟨some 39, some (37, false), .nilCheck (.tmp 38)⟩,
    ⟨some 40, some (37, false), .faddr 5 (.tmp 39)⟩,
    ⟨some 41, some (37, false), .load true 1 (.tmp 40)⟩,
    ⟨some 42, some (37, false), .bin .lss (.tmp 41) (.const (.int .i64 4))⟩,
    ⟨some 43, none, .pick (.tmp 37) (.const (.bool true)) (.tmp 42)⟩,
    ⟨some 44, none, .mov (.tmp 43)⟩,
    ⟨some 45, some (44, false), .faddr 6 (.tmp 6)⟩,
    ⟨some 46, some (44, false), .load true 1 (.tmp 45)⟩,
    ⟨some 47, some (44, false), .mov (.tmp 5)⟩,
    ⟨some 48, some (44, false), .bin .sub (.tmp 47) (.const (.int .i64 1))⟩,
    ⟨some 49, some (44, false), .qcall 71 [.tmp 46, .const (.int .i64 0), .tmp 48]⟩,
    ⟨some 50, some (44, false), .not (.tmp 49)⟩,
    ⟨some 51, none, .pick (.tmp 44) (.const (.bool true)) (.tmp 50)⟩,
    ⟨some 52, none, .mov (.tmp 51)⟩,
    ⟨some 53, some (52, false), .mov (.tmp 0)⟩,
    ⟨some 54, some (52, false), .nilCheck (.tmp 53)⟩,
    ⟨some 55, some (52, false), .faddr 4 (.tmp 54)⟩,
    ⟨some 56, some (52, false), .load true 1 (.tmp 55)⟩,
    ⟨some 57, some (52, false), .faddr 6 (.tmp 6)⟩,
    ⟨some 58, some (52, false), .load true 1 (.tmp 57)⟩,
    ⟨some 59, some (52, false), .iaddr 8 (.tmp 56) (.tmp 58)⟩,
    ⟨some 60, some (52, false), .faddr 0 (.tmp 59)⟩,
    ⟨some 61, some (52, false), .load true 1 (.tmp 60)⟩,
    ⟨some 62, some (52, false), .bin .neq (.tmp 61) (.const (.int .i64 1))⟩,
    ⟨some 63, none, .pick (.tmp 52) (.const (.bool true)) (.tmp 62)⟩,
    ⟨some 64, none, .mov (.tmp 63)⟩,
    ⟨some 65, some (64, false), .mov (.tmp 4)⟩,
    ⟨some 66, some (64, false), .faddr 6 (.tmp 6)⟩,
    ⟨some 67, some (64, false), .load true 1 (.tmp 66)⟩,
    ⟨some 68, some (64, false), .look true (.bool false) false (.tmp 65) (.tmp 67)⟩,
    ⟨some 69, none, .pick (.tmp 64) (.const (.bool true)) (.tmp 68)⟩]) (.cond (.tmp 69) (.seq (.reg [
    ⟨some 2, none, .mov (.const (.bool false))⟩]) (.ret)) (.skip))) (.seq (.reg [
    ⟨some 70, none, .mov (.tmp 4)⟩,
    ⟨some 71, none, .faddr 6 (.tmp 6)⟩,
    ⟨some 72, none, .load true 1 (.tmp 71)⟩,
    ⟨none, none, .mupd (.tmp 70) (.tmp 72) (.const (.bool true))⟩]) (.seq (.reg [
    ⟨some 7, none, .mov (.const (.int .i64 0))⟩]) (.block 3 (.loop (.seq (.seq (.reg [
    ⟨some 73, none, .mov (.tmp 7)⟩,
    ⟨some 74, none, .faddr 6 (.tmp 6)⟩,
    ⟨some 75, none, .load true 1 (.tmp 74)⟩,
    ⟨some 76, none, .bin .lss (.tmp 73) (.tmp 75)⟩,
    ⟨some 77, none, .mov (.tmp 76)⟩,
    ⟨some 78, some (77, true), .mov (.tmp 0)⟩,
    ⟨some 79, some (77, true), .nilCheck (.tmp 78)⟩,
    ⟨some 80, some (77, true), .faddr 5 (.tmp 79)⟩,
    ⟨some 81, some (77, true), .load true 1 (.tmp 80)⟩,
    ⟨some 82, some (77, true), .bin .eql (.tmp 81) (.const (.int .i64 4))⟩,
    ⟨some 83, none, .pick (.tmp 77) (.tmp 82) (.const (.bool false))⟩]) (.cond (.tmp 83) (.skip) (.exit 3))) (.seq (.block 4 (.seq (.reg [
    ⟨some 86, none, .mov (.tmp 0)⟩,
    ⟨some 87, none, .nilCheck (.tmp 86)⟩,
    ⟨some 88, none, .faddr 4 (.tmp 87)⟩,
    ⟨some 89, none, .load true 1 (.tmp 88)⟩,
    ⟨some 90, none, .mov (.tmp 7)⟩,
    ⟨some 91, none, .iaddr 8 (.tmp 89) (.tmp 90)⟩,
    ⟨some 92, none, .faddr 0 (.tmp 91)⟩,
    ⟨some 93, none, .load true 1 (.tmp 92)⟩,
    ⟨some 94, none, .bin .eql (.tmp 93) (.const (.int .i64 0))⟩]) (.cond (.tmp 94) (.seq (.reg [
    ⟨some 2, none, .mov (.const (.bool false))⟩]) (.ret)) (.skip)))) (.reg [
    ⟨some 84, none, .mov (.tmp 7)⟩,
    ⟨some 85, none, .bin .add (.tmp 84) (.const (.int .i64 1))⟩,
    ⟨some 7, none, .mov (.tmp 85)⟩])))))))) (.seq (.reg [
    ⟨some 96, none, .bin .eql (.tmp 21) (.const (.int .i64 1))⟩,
    ⟨some 95, none, .mov (.tmp 96)⟩]) (.cond (.tmp 95) (.seq (.seq (.dreg 49 [
    ⟨some 97, none, .faddr 1 (.tmp 6)⟩,
    ⟨some 98, none, .load true 1 (.tmp 97)⟩,
    ⟨some 99, none, .qcall 71 [.tmp 98, .const (.int .i64 0), .const (.int .i64 255)]⟩,
    ⟨some 100, none, .not (.tmp 99)⟩,
    ⟨some 101, none, .mov (.tmp 100)⟩,
    ⟨some 102, some (101, false), .faddr 2 (.tmp 6)⟩,
    ⟨some 103, some (101, false), .load true 1 (.tmp 102)⟩,
    ⟨some 104, some (101, false), .qcall 71 [.tmp 103, .const (.int .i64 0), .const (.int .i64 3)]⟩,
    ⟨some 105, some (101, false), .not (.tmp 104)⟩,
    ⟨some 106, none, .pick (.tmp 101) (.const (.bool true)) (.tmp 105)⟩,
    ⟨some 107, none, .mov (.tmp 106)⟩,
    ⟨some 108, some (107, false), .faddr 3 (.tmp 6)⟩,
    ⟨some 109, some (107, false), .load true 1 (.tmp 108)⟩,
    ⟨some 110, some (107, false), .qcall 71 [.tmp 109, .const (.int .i64 0), .const (.int .i64 3)]⟩,
    ⟨some 111, some (107, false), .not (.tmp 110)⟩,
    ⟨some 112, none, .pick (.tmp 107) (.const (.bool true)) (.tmp 111)⟩,
    ⟨some 113, none, .mov (.tmp 112)⟩,
    ⟨some 114, some (113, false), .faddr 4 (.tmp 6)⟩,
    ⟨some 115, some (113, false), .load true 1 (.tmp 114)⟩,
    ⟨some 116, some (113, false), .mov (.tmp 0)⟩,
    ⟨some 117, some (113, false), .nilCheck (.tmp 116)⟩,
    ⟨some 118, some (113, false), .faddr 2 (.tmp 117)⟩,
    ⟨some 119, some (113, false), .load true 1 (.tmp 118)⟩,
    ⟨some 120, some (113, false), .qcall 71 [.tmp 115, .const (.int .i64 1), .tmp 119]⟩,
    ⟨some 121, some (113, false), .not (.tmp 120)⟩,
    ⟨some 122, none, .pick (.tmp 113) (.const (.bool true)) (.tmp 121)⟩,
    ⟨some 123, none, .mov (.tmp 122)⟩,
    ⟨some 124, some (123, false), .faddr 5 (.tmp 6)⟩,
    ⟨some 125, some (123, false), .load true 1 (.tmp 124)⟩,
    ⟨some 126, some (123, false), .qcall 71 [.tmp 125, .const (.int .i64 0), .const (.int .i64 2)]⟩,
    ⟨some 127, some (123, false), .not (.tmp 126)⟩,
    ⟨some 128, none, .pick (.tmp 123) (.const (.bool true)) (.tmp 127)⟩,
    ⟨some 129, none, .mov (.tmp 128)⟩,
    ⟨some 130, some (129, false), .faddr 6 (.tmp 6)⟩,
    ⟨some 131, some (129, false), .load true 1 (.tmp 130)⟩,
    ⟨some 132, some (129, false), .bin .neq (.tmp 131) (.const (.int .i64 0))⟩,
    ⟨some 133, none, .pick (.tmp 129) (.const (.bool true)) (.tmp 132)⟩,
    ⟨some 134, none, .mov (.tmp 133)⟩,
    ⟨some 135, some (134, false), .faddr 7 (.tmp 6)⟩,
    ⟨some 136, some (134, false), .load true 1 (.tmp 135)⟩,
    ⟨some 137, some (134, false), .lenS (.tmp 136)⟩,
    ⟨some 138, some (134, false), .bin .gtr (.tmp 137) (.const (.int .i64 200))⟩,
    ⟨some 139, none, .pick (.tmp 134) (.const (.bool true)) (.tmp 138)⟩,
    ⟨some 140, none, .mov (.tmp 139)⟩,
    ⟨some 141, some (140, false), .mov (.tmp 3)⟩,
    ⟨some 142, some (140, false), .faddr 4 (.tmp 6)⟩,
    ⟨some 143, some (140, false), .load true 1 (.tmp 142)⟩,
    ⟨some 144, some (140, false), .look true (.bool false) false (.tmp 141) (.tmp 143)⟩,
    ⟨some 145, none, .pick (.tmp 140) (.const (.bool true)) (.tmp 144)⟩]) (.cond (.tmp 145) (.seq (.reg [
    ⟨some 2, none, .mov (.const (.bool false))⟩]) (.ret)) (.skip))) (.reg [
    ⟨some 146, none, .mov (.tmp 3)⟩,
    ⟨some 147, none, .faddr 4 (.tmp 6)⟩,
    ⟨some 148, none, .load true 1 (.tmp 147)⟩,
    ⟨none, none, .mupd (.tmp 146) (.tmp 148) (.const (.bool true))⟩])) (.seq (.reg [
    ⟨some 2, none, .mov (.const (.bool false))⟩]) (.ret)))))))))))) (.reg [
    ⟨some 149, none, .bin .add (.tmp 15) (.const (.int .i64 1))⟩,
    ⟨some 15, none, .mov (.tmp 149)⟩]))))))) (.seq (.reg [
    ⟨some 2, none, .mov (.const (.bool true))⟩]) (.ret))))
theorem t96 : Try.f96.body.bind (trC e96) = some c96 := by kernel_rfl
theorem r96 : Try.f96.results.toList.mapM (trR Try.prog) = some [.tmp 2] := by kernel_rfl
theorem fn96 {args : List Value} {M : Mem} {post : Value → Mem → Prop} (hl : args.length ≤ 150) (h : VC e96 c96 (fnQ [.tmp 2] post) (initS args 150) M) : Fn Try.prog 96 args M post :=
  Fn.of' (E := e96) Try.func96 t96 rfl r96 mixed hl h
noncomputable def e97 : Env := ⟨Try.prog, [5], 34, []⟩
noncomputable def c97 : C :=
  .seq (.reg [
    ⟨some 2, none, .mov (.const (.bool false))⟩]) (.seq (.reg [
    ⟨some 3, none, .mov (.const (.int .i64 0))⟩]) (.seq (.seq (.reg [
    ⟨some 6, none, .mov (.tmp 0)⟩,
    ⟨some 7, none, .nilCheck (.tmp 6)⟩,
    ⟨some 8, none, .faddr 4 (.tmp 7)⟩,
    ⟨some 9, none, .load true 1 (.tmp 8)⟩,
    ⟨some 10, none, .lenS (.tmp 9)⟩,
    ⟨some 11, none, .mov (.const (.int .i64 0))⟩]) (.block 0 (.loop (.seq (.reg [
    ⟨some 12, none, .bin .lss (.tmp 11) (.tmp 10)⟩]) (.seq (.cond (.tmp 12) (.skip) (.exit 0)) (.seq (.block 1 (.seq (.reg [
    ⟨some 13, none, .iaddr 8 (.tmp 9) (.tmp 11)⟩,
    ⟨some 14, none, .load false 8 (.tmp 13)⟩,
    ⟨some 5, none, .alloc true [.int .i64 0, .int .i64 0, .int .i64 0, .int .i64 0, .int .i64 0, .int .i64 0, .int .i64 0, .slice none 0 0]⟩,
    ⟨none, none, .store 8 (.tmp 5) (.tmp 14)⟩]) (.reg [
    ⟨some 15, none, .mov (.tmp 3)⟩,
    ⟨some 16, none, .load false 8 (.tmp 5)⟩,
    ⟨some 17, none, .call 142 [.tmp 16]⟩,
    ⟨some 18, none, .bin .add (.tmp 15) (.tmp 17)⟩,
    ⟨some 3, none, .mov (.tmp 18)⟩]))) (.reg [
    ⟨some 19, none, .bin .add (.tmp 11) (.const (.int .i64 1))⟩,
    ⟨some 11, none, .mov (.tmp 19)⟩]))))))) (.seq (.reg [
    ⟨some 20, none, .mov (.tmp 3)⟩,
    ⟨some 21, none, .mov (.tmp 0)⟩,
    ⟨some 22, none, .nilCheck (.tmp 21)⟩,
    ⟨some 23, none, .faddr 1 (.tmp 22)⟩,
    ⟨some 24, none, .load true 1 (.tmp 23)⟩,
    ⟨some 25, none, .bin .eql (.tmp 20) (.tmp 24)⟩,
    ⟨some 26, none, .mov (.tmp 25)⟩,
    ⟨some 27, some (26, true), .mov (.tmp 3)⟩,
    ⟨some 28, some (26, true), .mov (.tmp 0)⟩,
    ⟨some 29, some (26, true), .nilCheck (.tmp 28)⟩,
    ⟨some 30, some (26, true), .faddr 0 (.tmp 29)⟩,
    ⟨some 31, some (26, true), .load true 1 (.tmp 30)⟩,
    ⟨some 32, some (26, true), .bin .leq (.tmp 27) (.tmp 31)⟩,
    ⟨some 33, none, .pick (.tmp 26) (.tmp 32) (.const (.bool false))⟩,
    ⟨some 2, none, .mov (.tmp 33)⟩]) (.ret))))
theorem t97 : Try.f97.body.bind (trC e97) = some c97 := by kernel_rfl
theorem r97 : Try.f97.results.toList.mapM (trR Try.prog) = some [.tmp 2] := by kernel_rfl
theorem fn97 {args : List Value} {M : Mem} {post : Value → Mem → Prop} (hl : args.length ≤ 34) (h : VC e97 c97 (fnQ [.tmp 2] post) (initS args 34) M) : Fn Try.prog 97 args M post :=
  Fn.of' (E := e97) Try.func97 t97 rfl r97 mixed hl h
noncomputable def e98 : Env := ⟨Try.prog, [4, 6, 8], 91, []⟩
noncomputable def c98 : C :=
  .seq (.reg [
    ⟨some 2, none, .mov (.const (.bool false))⟩]) (.seq (.seq (.reg [
    ⟨some 10, none, .mov (.tmp 0)⟩,
    ⟨some 11, none, .nilCheck (.tmp 10)⟩,
    ⟨some 12, none, .faddr 3 (.tmp 11)⟩,
    ⟨some 13, none, .load true 1 (.tmp 12)⟩,
    ⟨some 14, none, .lenS (.tmp 13)⟩,
    ⟨some 15, none, .mov (.const (.int .i64 0))⟩]) (.block 0 (.loop (.seq (.reg [
    ⟨some 16, none, .bin .lss (.tmp 15) (.tmp 14)⟩]) (.seq (.cond (.tmp 16) (.skip) (.exit 0)) (.seq (.block 1 (.seq (.reg [
    ⟨some 17, none, .iaddr 3 (.tmp 13) (.tmp 15)⟩,
    ⟨some 18, none, .load false 3 (.tmp 17)⟩,
    ⟨some 4, none, .alloc true [.int .i64 0, .int .i64 0, .int .i64 0]⟩,
    ⟨none, none, .store 3 (.tmp 4) (.tmp 18)⟩]) (.seq (.reg [
    ⟨some 19, none, .mov (.tmp 0)⟩,
    ⟨some 20, none, .load false 3 (.tmp 4)⟩,
    ⟨some 21, none, .call 106 [.tmp 19, .tmp 20]⟩,
    ⟨some 22, none, .not (.tmp 21)⟩,
    ⟨some 23, none, .mov (.tmp 22)⟩,
    ⟨some 24, some (23, false), .mov (.tmp 0)⟩,
    ⟨some 25, some (23, false), .load false 3 (.tmp 4)⟩,
    ⟨some 26, some (23, false), .call 143 [.tmp 24, .tmp 25, .const (.bool false)]⟩,
    ⟨some 27, some (23, false), .not (.tmp 26)⟩,
    ⟨some 28, none, .pick (.tmp 23) (.const (.bool true)) (.tmp 27)⟩]) (.cond (.tmp 28) (.seq (.reg [
    ⟨some 2, none, .mov (.const (.bool false))⟩]) (.ret)) (.skip))))) (.reg [
    ⟨some 29, none, .bin .add (.tmp 15) (.const (.int .i64 1))⟩,
    ⟨some 15, none, .mov (.tmp 29)⟩]))))))) (.seq (.seq (.reg [
    ⟨some 30, none, .mov (.tmp 0)⟩,
    ⟨some 31, none, .nilCheck (.tmp 30)⟩,
    ⟨some 32, none, .faddr 4 (.tmp 31)⟩,
    ⟨some 33, none, .load true 1 (.tmp 32)⟩,
    ⟨some 34, none, .lenS (.tmp 33)⟩,
    ⟨some 35, none, .mov (.const (.int .i64 0))⟩]) (.block 2 (.loop (.seq (.reg [
    ⟨some 36, none, .bin .lss (.tmp 35) (.tmp 34)⟩]) (.seq (.cond (.tmp 36) (.skip) (.exit 2)) (.seq (.block 3 (.seq (.reg [
    ⟨some 37, none, .mov (.tmp 35)⟩,
    ⟨some 38, none, .iaddr 8 (.tmp 33) (.tmp 35)⟩,
    ⟨some 39, none, .load false 8 (.tmp 38)⟩,
    ⟨some 6, none, .alloc true [.int .i64 0, .int .i64 0, .int .i64 0, .int .i64 0, .int .i64 0, .int .i64 0, .int .i64 0, .slice none 0 0]⟩,
    ⟨some 5, none, .mov (.tmp 37)⟩,
    ⟨none, none, .store 8 (.tmp 6) (.tmp 39)⟩]) (.seq (.seq (.reg [
    ⟨some 40, none, .mov (.tmp 0)⟩,
    ⟨some 41, none, .mov (.tmp 5)⟩,
    ⟨some 42, none, .call 144 [.tmp 40, .tmp 41]⟩,
    ⟨some 43, none, .mov (.tmp 42)⟩,
    ⟨some 44, some (43, true), .load false 8 (.tmp 6)⟩,
    ⟨some 45, some (43, true), .call 145 [.tmp 44]⟩,
    ⟨some 46, none, .pick (.tmp 43) (.tmp 45) (.const (.bool false))⟩]) (.cond (.tmp 46) (.seq (.reg [
    ⟨some 2, none, .mov (.const (.bool false))⟩]) (.ret)) (.skip))) (.seq (.reg [
    ⟨some 47, none, .faddr 7 (.tmp 6)⟩,
    ⟨some 48, none, .load true 1 (.tmp 47)⟩,
    ⟨some 49, none, .lenS (.tmp 48)⟩,
    ⟨some 50, none, .mov (.const (.int .i64 0))⟩]) (.block 4 (.loop (.seq (.reg [
    ⟨some 51, none, .bin .lss (.tmp 50) (.tmp 49)⟩]) (.seq (.cond (.tmp 51) (.skip) (.exit 4)) (.seq (.block 5 (.seq (.reg [
    ⟨some 52, none, .mov (.tmp 50)⟩,
    ⟨some 53, none, .iaddr 6 (.tmp 48) (.tmp 50)⟩,
    ⟨some 54, none, .load false 6 (.tmp 53)⟩,
    ⟨some 8, none, .alloc true [.int .i64 0, .int .i64 0, .int .i64 0, .int .i64 0, .int .i64 0, .int .i64 0]⟩,
    ⟨some 7, none, .mov (.tmp 52)⟩,
    ⟨none, none, .store 6 (.tmp 8) (.tmp 54)⟩]) (.seq (.seq (.reg [
    ⟨some 55, none, .mov (.tmp 0)⟩,
    ⟨some 56, none, .faddr 0 (.tmp 8)⟩,
    ⟨some 57, none, .load false 3 (.tmp 56)⟩,
    ⟨some 58, none, .call 106 [.tmp 55, .tmp 57]⟩,
    ⟨some 59, none, .not (.tmp 58)⟩,
    ⟨some 60, none, .mov (.tmp 59)⟩,
    ⟨some 61, some (60, false), .mov (.tmp 0)⟩,
    ⟨some 62, some (60, false), .faddr 3 (.tmp 8)⟩,
    ⟨some 63, some (60, false), .load false 3 (.tmp 62)⟩,
    ⟨some 64, some (60, false), .call 106 [.tmp 61, .tmp 63]⟩,
    ⟨some 65, some (60, false), .not (.tmp 64)⟩,
    ⟨some 66, none, .pick (.tmp 60) (.const (.bool true)) (.tmp 65)⟩]) (.cond (.tmp 66) (.seq (.reg [
    ⟨some 2, none, .mov (.const (.bool false))⟩]) (.ret)) (.skip))) (.seq (.seq (.reg [
    ⟨some 67, none, .mov (.tmp 0)⟩,
    ⟨some 68, none, .mov (.tmp 5)⟩,
    ⟨some 69, none, .call 144 [.tmp 67, .tmp 68]⟩]) (.cond (.tmp 69) (.exit 5) (.skip))) (.seq (.reg [
    ⟨some 70, none, .mov (.tmp 0)⟩,
    ⟨some 71, none, .mov (.tmp 5)⟩,
    ⟨some 72, none, .mov (.tmp 7)⟩,
    ⟨some 73, none, .call 146 [.tmp 70, .tmp 71, .tmp 72]⟩,
    ⟨some 74, none, .not (.tmp 73)⟩,
    ⟨some 9, none, .mov (.tmp 74)⟩]) (.seq (.reg [
    ⟨some 75, none, .mov (.tmp 0)⟩,
    ⟨some 76, none, .faddr 0 (.tmp 8)⟩,
    ⟨some 77, none, .load false 3 (.tmp 76)⟩,
    ⟨some 78, none, .mov (.tmp 9)⟩,
    ⟨some 79, none, .call 143 [.tmp 75, .tmp 77, .tmp 78]⟩,
    ⟨some 80, none, .not (.tmp 79)⟩,
    ⟨some 81, none, .mov (.tmp 80)⟩,
    ⟨some 82, some (81, false), .mov (.tmp 0)⟩,
    ⟨some 83, some (81, false), .faddr 3 (.tmp 8)⟩,
    ⟨some 84, some (81, false), .load false 3 (.tmp 83)⟩,
    ⟨some 85, some (81, false), .mov (.tmp 9)⟩,
    ⟨some 86, some (81, false), .call 143 [.tmp 82, .tmp 84, .tmp 85]⟩,
    ⟨some 87, some (81, false), .not (.tmp 86)⟩,
    ⟨some 88, none, .pick (.tmp 81) (.const (.bool true)) (.tmp 87)⟩]) (.cond (.tmp 88) (.seq (.reg [
    ⟨some 2, none, .mov (.const (.bool false))⟩]) (.ret)) (.skip)))))))) (.reg [
    ⟨some 89, none, .bin .add (.tmp 50) (.const (.int .i64 1))⟩,
    ⟨some 50, none, .mov (.tmp 89)⟩])))))))))) (.reg [
    ⟨some 90, none, .bin .add (.tmp 35) (.const (.int .i64 1))⟩,
    ⟨some 35, none, .mov (.tmp 90)⟩]))))))) (.seq (.reg [
    ⟨some 2, none, .mov (.const (.bool true))⟩]) (.ret))))
theorem t98 : Try.f98.body.bind (trC e98) = some c98 := by kernel_rfl
theorem r98 : Try.f98.results.toList.mapM (trR Try.prog) = some [.tmp 2] := by kernel_rfl
theorem fn98 {args : List Value} {M : Mem} {post : Value → Mem → Prop} (hl : args.length ≤ 91) (h : VC e98 c98 (fnQ [.tmp 2] post) (initS args 91) M) : Fn Try.prog 98 args M post :=
  Fn.of' (E := e98) Try.func98 t98 rfl r98 mixed hl h
noncomputable def e99 : Env := ⟨Try.prog, [7, 9], 121, []⟩
noncomputable def c99 : C :=
  .seq (.reg [
    ⟨some 2, none, .mov (.const (.bool false))⟩]) (.seq (.seq (.reg [
    ⟨some 10, none, .mov (.tmp 0)⟩,
    ⟨some 11, none, .call 147 [.tmp 10]⟩]) (.cond (.tmp 11) (.seq (.reg [
    ⟨some 12, none, .mkmap⟩,
    ⟨some 3, none, .mov (.tmp 12)⟩]) (.seq (.seq (.reg [
    ⟨some 13, none, .mov (.tmp 0)⟩,
    ⟨some 14, none, .nilCheck (.tmp 13)⟩,
    ⟨some 15, none, .faddr 8 (.tmp 14)⟩,
    ⟨some 16, none, .load true 1 (.tmp 15)⟩,
    ⟨some 17, none, .lenS (.tmp 16)⟩,
    ⟨some 18, none, .mov (.const (.int .i64 0))⟩]) (.block 0 (.loop (.seq (.reg [
    ⟨some 19, none, .bin .lss (.tmp 18) (.tmp 17)⟩]) (.seq (.cond (.tmp 19) (.skip) (.exit 0)) (.seq (.block 1 (.seq (.reg [
    ⟨some 20, none, .iaddr 1 (.tmp 16) (.tmp 18)⟩,
    ⟨some 21, none, .load true 1 (.tmp 20)⟩,
    ⟨some 5, none, .mov (.tmp 21)⟩]) (.seq (.seq (.reg [
    ⟨some 22, none, .mov (.tmp 5)⟩,
    ⟨some 23, none, .mov (.tmp 0)⟩,
    ⟨some 24, none, .nilCheck (.tmp 23)⟩,
    ⟨some 25, none, .faddr 4 (.tmp 24)⟩,
    ⟨some 26, none, .load true 1 (.tmp 25)⟩,
    ⟨some 27, none, .lenS (.tmp 26)⟩,
    ⟨some 28, none, .bin .sub (.tmp 27) (.const (.int .i64 1))⟩,
    ⟨some 29, none, .call 71 [.tmp 22, .const (.int .i64 0), .tmp 28]⟩,
    ⟨some 30, none, .not (.tmp 29)⟩,
    ⟨some 31, none, .mov (.tmp 30)⟩,
    ⟨some 32, some (31, false), .mov (.tmp 3)⟩,
    ⟨some 33, some (31, false), .mov (.tmp 5)⟩,
    ⟨some 34, some (31, false), .look true (.bool false) false (.tmp 32) (.tmp 33)⟩,
    ⟨some 35, none, .pick (.tmp 31) (.const (.bool true)) (.tmp 34)⟩,
    ⟨some 36, none, .mov (.tmp 35)⟩,
    ⟨some 37, some (36, false), .mov (.tmp 0)⟩,
    ⟨some 38, some (36, false), .nilCheck (.tmp 37)⟩,
    ⟨some 39, some (36, false), .faddr 4 (.tmp 38)⟩,
    ⟨some 40, some (36, false), .load true 1 (.tmp 39)⟩,
    ⟨some 41, some (36, false), .mov (.tmp 5)⟩,
    ⟨some 42, some (36, false), .iaddr 8 (.tmp 40) (.tmp 41)⟩,
    ⟨some 43, some (36, false), .faddr 0 (.tmp 42)⟩,
    ⟨some 44, some (36, false), .load true 1 (.tmp 43)⟩,
    ⟨some 45, some (36, false), .bin .neq (.tmp 44) (.const (.int .i64 1))⟩,
    ⟨some 46, none, .pick (.tmp 36) (.const (.bool true)) (.tmp 45)⟩,
    ⟨some 47, none, .mov (.tmp 46)⟩,
    ⟨some 48, some (47, false), .mov (.tmp 0)⟩,
    ⟨some 49, some (47, false), .nilCheck (.tmp 48)⟩,
    ⟨some 50, some (47, false), .faddr 4 (.tmp 49)⟩,
    ⟨some 51, some (47, false), .load true 1 (.tmp 50)⟩,
    ⟨some 52, some (47, false), .mov (.tmp 5)⟩,
    ⟨some 53, some (47, false), .iaddr 8 (.tmp 51) (.tmp 52)⟩,
    ⟨some 54, some (47, false), .faddr 5 (.tmp 53)⟩,
    ⟨some 55, some (47, false), .load true 1 (.tmp 54)⟩,
    ⟨some 56, some (47, false), .bin .neq (.tmp 55) (.const (.int .i64 1))⟩,
    ⟨some 57, none, .pick (.tmp 47) (.const (.bool true)) (.tmp 56)⟩]) (.cond (.tmp 57) (.seq (.reg [
    ⟨some 2, none, .mov (.const (.bool false))⟩]) (.ret)) (.skip))) (.reg [
    ⟨some 58, none, .mov (.tmp 3)⟩,
    ⟨some 59, none, .mov (.tmp 5)⟩,
    ⟨none, none, .mupd (.tmp 58) (.tmp 59) (.const (.bool true))⟩])))) (.reg [
    ⟨some 60, none, .bin .add (.tmp 18) (.const (.int .i64 1))⟩,
    ⟨some 18, none, .mov (.tmp 60)⟩]))))))) (.seq (.seq (.reg [
    ⟨some 61, none, .mov (.tmp 0)⟩,
    ⟨some 62, none, .nilCheck (.tmp 61)⟩,
    ⟨some 63, none, .faddr 4 (.tmp 62)⟩,
    ⟨some 64, none, .load true 1 (.tmp 63)⟩,
    ⟨some 65, none, .lenS (.tmp 64)⟩,
    ⟨some 66, none, .mov (.const (.int .i64 0))⟩]) (.block 2 (.loop (.seq (.reg [
    ⟨some 67, none, .bin .lss (.tmp 66) (.tmp 65)⟩]) (.seq (.cond (.tmp 67) (.skip) (.exit 2)) (.seq (.block 3 (.seq (.reg [
    ⟨some 68, none, .mov (.tmp 66)⟩,
    ⟨some 69, none, .iaddr 8 (.tmp 64) (.tmp 66)⟩,
    ⟨some 70, none, .load false 8 (.tmp 69)⟩,
    ⟨some 7, none, .alloc true [.int .i64 0, .int .i64 0, .int .i64 0, .int .i64 0, .int .i64 0, .int .i64 0, .int .i64 0, .slice none 0 0]⟩,
    ⟨some 6, none, .mov (.tmp 68)⟩,
    ⟨none, none, .store 8 (.tmp 7) (.tmp 70)⟩]) (.seq (.reg [
    ⟨some 71, none, .faddr 5 (.tmp 7)⟩,
    ⟨some 72, none, .load true 1 (.tmp 71)⟩,
    ⟨some 73, none, .bin .eql (.tmp 72) (.const (.int .i64 1))⟩,
    ⟨some 74, none, .mov (.tmp 73)⟩,
    ⟨some 75, some (74, true), .mov (.tmp 3)⟩,
    ⟨some 76, some (74, true), .mov (.tmp 6)⟩,
    ⟨some 77, some (74, true), .look true (.bool false) false (.tmp 75) (.tmp 76)⟩,
    ⟨some 78, some (74, true), .not (.tmp 77)⟩,
    ⟨some 79, none, .pick (.tmp 74) (.tmp 78) (.const (.bool false))⟩]) (.cond (.tmp 79) (.seq (.reg [
    ⟨some 2, none, .mov (.const (.bool false))⟩]) (.ret)) (.skip))))) (.reg [
    ⟨some 80, none, .bin .add (.tmp 66) (.const (.int .i64 1))⟩,
    ⟨some 66, none, .mov (.tmp 80)⟩]))))))) (.seq (.reg [
    ⟨some 2, none, .mov (.const (.bool true))⟩]) (.ret))))) (.skip))) (.seq (.seq (.reg [
    ⟨some 81, none, .mov (.tmp 0)⟩,
    ⟨some 82, none, .nilCheck (.tmp 81)⟩,
    ⟨some 83, none, .faddr 4 (.tmp 82)⟩,
    ⟨some 84, none, .load true 1 (.tmp 83)⟩,
    ⟨some 85, none, .lenS (.tmp 84)⟩,
    ⟨some 86, none, .mov (.const (.int .i64 0))⟩]) (.block 4 (.loop (.seq (.reg [
    ⟨some 87, none, .bin .lss (.tmp 86) (.tmp 85)⟩]) (.seq (.cond (.tmp 87) (.skip) (.exit 4)) (.seq (.block 5 (.seq (.reg [
    ⟨some 88, none, .mov (.tmp 86)⟩,
    ⟨some 89, none, .iaddr 8 (.tmp 84) (.tmp 86)⟩,
    ⟨some 90, none, .load false 8 (.tmp 89)⟩,
    ⟨some 9, none, .alloc true [.int .i64 0, .int .i64 0, .int .i64 0, .int .i64 0, .int .i64 0, .int .i64 0, .int .i64 0, .slice none 0 0]⟩,
    ⟨some 8, none, .mov (.tmp 88)⟩,
    ⟨none, none, .store 8 (.tmp 9) (.tmp 90)⟩]) (.seq (.reg [
    ⟨some 91, none, .faddr 5 (.tmp 9)⟩,
    ⟨some 92, none, .load true 1 (.tmp 91)⟩,
    ⟨some 93, none, .bin .eql (.tmp 92) (.const (.int .i64 1))⟩,
    ⟨some 94, none, .mov (.tmp 93)⟩,
    ⟨some 95, some (94, false), .faddr 5 (.tmp 9)⟩,
    ⟨some 96, some (94, false), .load true 1 (.tmp 95)⟩,
    ⟨some 97, some (94, false), .bin .eql (.tmp 96) (.const (.int .i64 2))⟩,
    ⟨some 98, some (94, false), .mov (.tmp 97)⟩,
    ⟨some 99, some (98, true), .mov (.tmp 0)⟩,
    ⟨some 100, some (98, true), .nilCheck (.tmp 99)⟩,
    ⟨some 101, some (98, true), .faddr 5 (.tmp 100)⟩,
    ⟨some 102, some (98, true), .load true 1 (.tmp 101)⟩,
    ⟨some 103, some (98, true), .bin .neq (.tmp 102) (.const (.int .i64 3))⟩,
    ⟨some 104, some (98, true), .mov (.tmp 103)⟩,
    ⟨some 105, some (104, false), .mov (.tmp 8)⟩,
    ⟨some 106, some (104, false), .mov (.tmp 0)⟩,
    ⟨some 107, some (104, false), .nilCheck (.tmp 106)⟩,
    ⟨some 108, some (104, false), .faddr 6 (.tmp 107)⟩,
    ⟨some 109, some (104, false), .load true 1 (.tmp 108)⟩,
    ⟨some 110, some (104, false), .bin .lss (.tmp 105) (.tmp 109)⟩,
    ⟨some 111, some (98, true), .pick (.tmp 104) (.const (.bool true)) (.tmp 110)⟩,
    ⟨some 112, some (94, false), .pick (.tmp 98) (.tmp 111) (.const (.bool false))⟩,
    ⟨some 113, none, .pick (.tmp 94) (.const (.bool true)) (.tmp 112)⟩]) (.cond (.tmp 113) (.seq (.reg [
    ⟨some 2, none, .mov (.const (.bool false))⟩]) (.ret)) (.skip))))) (.reg [
    ⟨some 114, none, .bin .add (.tmp 86) (.const (.int .i64 1))⟩,
    ⟨some 86, none, .mov (.tmp 114)⟩]))))))) (.seq (.reg [
    ⟨some 115, none, .mov (.tmp 0)⟩,
    ⟨some 116, none, .nilCheck (.tmp 115)⟩,
    ⟨some 117, none, .faddr 8 (.tmp 116)⟩,
    ⟨some 118, none, .load true 1 (.tmp 117)⟩,
    ⟨some 119, none, .lenS (.tmp 118)⟩,
    ⟨some 120, none, .bin .eql (.tmp 119) (.const (.int .i64 0))⟩,
    ⟨some 2, none, .mov (.tmp 120)⟩]) (.ret))))
theorem t99 : Try.f99.body.bind (trC e99) = some c99 := by kernel_rfl
theorem r99 : Try.f99.results.toList.mapM (trR Try.prog) = some [.tmp 2] := by kernel_rfl
theorem fn99 {args : List Value} {M : Mem} {post : Value → Mem → Prop} (hl : args.length ≤ 121) (h : VC e99 c99 (fnQ [.tmp 2] post) (initS args 121) M) : Fn Try.prog 99 args M post :=
  Fn.of' (E := e99) Try.func99 t99 rfl r99 mixed hl h
noncomputable def e100 : Env := ⟨Try.prog, [], 107, [(10, 19), (12, 24), (13, 17)]⟩
noncomputable def c100 : C :=
  .seq (.reg [
    ⟨some 2, none, .mov (.const (.bool false))⟩]) (.seq (.seq (.reg [
    ⟨some 3, none, .mov (.tmp 0)⟩,
    ⟨some 4, none, .nilCheck (.tmp 3)⟩,
    ⟨some 5, none, .faddr 5 (.tmp 4)⟩,
    ⟨some 6, none, .load true 1 (.tmp 5)⟩]) (.block 0 (.seq (.seq (.reg [
    ⟨some 8, none, .bin .eql (.tmp 6) (.const (.int .i64 0))⟩,
    ⟨some 7, none, .mov (.tmp 8)⟩]) (.cond (.tmp 7) (.skip) (.reg [
    ⟨some 9, none, .bin .eql (.tmp 6) (.const (.int .i64 4))⟩,
    ⟨some 7, none, .mov (.tmp 9)⟩]))) (.cond (.tmp 7) (.seq (.reg [
    ⟨some 10, none, .mov (.tmp 0)⟩,
    ⟨some 11, none, .nilCheck (.tmp 10)⟩,
    ⟨some 12, none, .faddr 6 (.tmp 11)⟩,
    ⟨some 13, none, .load true 1 (.tmp 12)⟩,
    ⟨some 14, none, .bin .eql (.tmp 13) (.const (.int .i64 0))⟩,
    ⟨some 15, none, .mov (.tmp 14)⟩,
    ⟨some 16, some (15, true), .mov (.tmp 0)⟩,
    ⟨some 17, some (15, true), .nilCheck (.tmp 16)⟩,
    ⟨some 18, some (15, true), .faddr 7 (.tmp 17)⟩,
    ⟨some 19, some (15, true), .load true 1 (.tmp 18)⟩,
    ⟨some 20, some (15, true), .bin .eql (.tmp 19) (.const (.int .i64 0))⟩,
    ⟨some 21, none, .pick (.tmp 15) (.tmp 20) (.const (.bool false))⟩,
    ⟨some 2, none, .mov (.tmp 21)⟩]) (.ret)) (.seq (.reg [
    ⟨some 23, none, .bin .eql (.tmp 6) (.const (.int .i64 2))⟩,
    ⟨some 22, none, .mov (.tmp 23)⟩]) (.cond (.tmp 22) (.seq (.seq (.reg [
    ⟨some 24, none, .mov (.tmp 0)⟩,
    ⟨some 25, none, .nilCheck (.tmp 24)⟩,
    ⟨some 26, none, .faddr 6 (.tmp 25)⟩,
    ⟨some 27, none, .load true 1 (.tmp 26)⟩,
    ⟨some 28, none, .bin .neq (.tmp 27) (.const (.int .i64 0))⟩]) (.cond (.tmp 28) (.seq (.reg [
    ⟨some 2, none, .mov (.const (.bool false))⟩]) (.ret)) (.skip))) (.seq (.seq (.reg [
    ⟨some 29, none, .mov (.tmp 0)⟩,
    ⟨some 30, none, .nilCheck (.tmp 29)⟩,
    ⟨some 31, none, .faddr 8 (.tmp 30)⟩,
    ⟨some 32, none, .load true 1 (.tmp 31)⟩,
    ⟨some 33, none, .lenS (.tmp 32)⟩,
    ⟨some 34, none, .bin .eql (.tmp 33) (.const (.int .i64 0))⟩]) (.cond (.tmp 34) (.seq (.reg [
    ⟨some 35, none, .mov (.tmp 0)⟩,
    ⟨some 36, none, .nilCheck (.tmp 35)⟩,
    ⟨some 37, none, .faddr 7 (.tmp 36)⟩,
    ⟨some 38, none, .load true 1 (.tmp 37)⟩,
    ⟨some 39, none, .bin .eql (.tmp 38) (.const (.int .i64 0))⟩,
    ⟨some 2, none, .mov (.tmp 39)⟩]) (.ret)) (.skip))) (.seq (.dreg 19 [
    ⟨some 40, none, .mov (.tmp 0)⟩,
    ⟨some 41, none, .nilCheck (.tmp 40)⟩,
    ⟨some 42, none, .faddr 7 (.tmp 41)⟩,
    ⟨some 43, none, .load true 1 (.tmp 42)⟩,
    ⟨some 44, none, .mov (.tmp 0)⟩,
    ⟨some 45, none, .nilCheck (.tmp 44)⟩,
    ⟨some 46, none, .faddr 4 (.tmp 45)⟩,
    ⟨some 47, none, .load true 1 (.tmp 46)⟩,
    ⟨some 48, none, .mov (.tmp 0)⟩,
    ⟨some 49, none, .nilCheck (.tmp 48)⟩,
    ⟨some 50, none, .faddr 8 (.tmp 49)⟩,
    ⟨some 51, none, .load true 1 (.tmp 50)⟩,
    ⟨some 52, none, .iaddr 1 (.tmp 51) (.const (.int .i64 0))⟩,
    ⟨some 53, none, .load true 1 (.tmp 52)⟩,
    ⟨some 54, none, .iaddr 8 (.tmp 47) (.tmp 53)⟩,
    ⟨some 55, none, .faddr 7 (.tmp 54)⟩,
    ⟨some 56, none, .load true 1 (.tmp 55)⟩,
    ⟨some 57, none, .lenS (.tmp 56)⟩,
    ⟨some 58, none, .bin .leq (.tmp 43) (.tmp 57)⟩,
    ⟨some 2, none, .mov (.tmp 58)⟩]) (.ret)))) (.seq (.reg [
    ⟨some 60, none, .bin .eql (.tmp 6) (.const (.int .i64 5))⟩,
    ⟨some 59, none, .mov (.tmp 60)⟩]) (.cond (.tmp 59) (.seq (.dreg 24 [
    ⟨some 61, none, .mov (.tmp 0)⟩,
    ⟨some 62, none, .nilCheck (.tmp 61)⟩,
    ⟨some 63, none, .faddr 6 (.tmp 62)⟩,
    ⟨some 64, none, .load true 1 (.tmp 63)⟩,
    ⟨some 65, none, .mov (.tmp 0)⟩,
    ⟨some 66, none, .nilCheck (.tmp 65)⟩,
    ⟨some 67, none, .faddr 4 (.tmp 66)⟩,
    ⟨some 68, none, .load true 1 (.tmp 67)⟩,
    ⟨some 69, none, .lenS (.tmp 68)⟩,
    ⟨some 70, none, .bin .lss (.tmp 64) (.tmp 69)⟩,
    ⟨some 71, none, .mov (.tmp 70)⟩,
    ⟨some 72, some (71, true), .mov (.tmp 0)⟩,
    ⟨some 73, some (71, true), .nilCheck (.tmp 72)⟩,
    ⟨some 74, some (71, true), .faddr 4 (.tmp 73)⟩,
    ⟨some 75, some (71, true), .load true 1 (.tmp 74)⟩,
    ⟨some 76, some (71, true), .mov (.tmp 0)⟩,
    ⟨some 77, some (71, true), .nilCheck (.tmp 76)⟩,
    ⟨some 78, some (71, true), .faddr 6 (.tmp 77)⟩,
    ⟨some 79, some (71, true), .load true 1 (.tmp 78)⟩,
    ⟨some 80, some (71, true), .iaddr 8 (.tmp 75) (.tmp 79)⟩,
    ⟨some 81, some (71, true), .faddr 0 (.tmp 80)⟩,
    ⟨some 82, some (71, true), .load true 1 (.tmp 81)⟩,
    ⟨some 83, some (71, true), .bin .eql (.tmp 82) (.const (.int .i64 1))⟩,
    ⟨some 84, none, .pick (.tmp 71) (.tmp 83) (.const (.bool false))⟩]) (.cond (.tmp 84) (.seq (.dreg 17 [
    ⟨some 85, none, .mov (.tmp 0)⟩,
    ⟨some 86, none, .nilCheck (.tmp 85)⟩,
    ⟨some 87, none, .faddr 7 (.tmp 86)⟩,
    ⟨some 88, none, .load true 1 (.tmp 87)⟩,
    ⟨some 89, none, .mov (.tmp 0)⟩,
    ⟨some 90, none, .nilCheck (.tmp 89)⟩,
    ⟨some 91, none, .faddr 4 (.tmp 90)⟩,
    ⟨some 92, none, .load true 1 (.tmp 91)⟩,
    ⟨some 93, none, .mov (.tmp 0)⟩,
    ⟨some 94, none, .nilCheck (.tmp 93)⟩,
    ⟨some 95, none, .faddr 6 (.tmp 94)⟩,
    ⟨some 96, none, .load true 1 (.tmp 95)⟩,
    ⟨some 97, none, .iaddr 8 (.tmp 92) (.tmp 96)⟩,
    ⟨some 98, none, .faddr 7 (.tmp 97)⟩,
    ⟨some 99, none, .load true 1 (.tmp 98)⟩,
    ⟨some 100, none, .lenS (.tmp 99)⟩,
    ⟨some 101, none, .bin .leq (.tmp 88) (.tmp 100)⟩,
    ⟨some 2, none, .mov (.tmp 101)⟩]) (.ret)) (.skip))) (.skip))))))))) (.seq (.reg [
    ⟨some 102, none, .mov (.tmp 0)⟩,
    ⟨some 103, none, .nilCheck (.tmp 102)⟩,
    ⟨some 104, none, .faddr 7 (.tmp 103)⟩,
    ⟨some 105, none, .load true 1 (.tmp 104)⟩,
    ⟨some 106, none, .bin .eql (.tmp 105) (.const (.int .i64 0))⟩,
    ⟨some 2, none, .mov (.tmp 106)⟩]) (.ret)))
theorem t100 : Try.f100.body.bind (trC e100) = some c100 := by kernel_rfl
theorem r100 : Try.f100.results.toList.mapM (trR Try.prog) = some [.tmp 2] := by kernel_rfl
theorem fn100 {args : List Value} {M : Mem} {post : Value → Mem → Prop} (hl : args.length ≤ 107) (h : VC e100 c100 (fnQ [.tmp 2] post) (initS args 107) M) : Fn Try.prog 100 args M post :=
  Fn.of' (E := e100) Try.func100 t100 rfl r100 mixed hl h
noncomputable def e101 : Env := ⟨Try.prog, [4, 7], 97, []⟩
noncomputable def c101 : C :=
  .seq (.reg [
    ⟨some 2, none, .mov (.const (.bool false))⟩]) (.seq (.seq (.reg [
    ⟨some 8, none, .mov (.tmp 0)⟩,
    ⟨some 9, none, .call 147 [.tmp 8]⟩,
    ⟨some 10, none, .not (.tmp 9)⟩]) (.cond (.tmp 10) (.seq (.reg [
    ⟨some 2, none, .mov (.const (.bool true))⟩]) (.ret)) (.skip))) (.seq (.seq (.reg [
    ⟨some 11, none, .mov (.tmp 0)⟩,
    ⟨some 12, none, .nilCheck (.tmp 11)⟩,
    ⟨some 13, none, .faddr 4 (.tmp 12)⟩,
    ⟨some 14, none, .load true 1 (.tmp 13)⟩,
    ⟨some 15, none, .lenS (.tmp 14)⟩,
    ⟨some 16, none, .mov (.const (.int .i64 0))⟩]) (.block 0 (.loop (.seq (.reg [
    ⟨some 17, none, .bin .lss (.tmp 16) (.tmp 15)⟩]) (.seq (.cond (.tmp 17) (.skip) (.exit 0)) (.seq (.block 1 (.seq (.reg [
    ⟨some 18, none, .mov (.tmp 16)⟩,
    ⟨some 19, none, .iaddr 8 (.tmp 14) (.tmp 16)⟩,
    ⟨some 20, none, .load false 8 (.tmp 19)⟩,
    ⟨some 4, none, .alloc true [.int .i64 0, .int .i64 0, .int .i64 0, .int .i64 0, .int .i64 0, .int .i64 0, .int .i64 0, .slice none 0 0]⟩,
    ⟨some 3, none, .mov (.tmp 18)⟩,
    ⟨none, none, .store 8 (.tmp 4) (.tmp 20)⟩]) (.seq (.seq (.reg [
    ⟨some 21, none, .load false 8 (.tmp 4)⟩,
    ⟨some 22, none, .call 145 [.tmp 21]⟩,
    ⟨some 23, none, .mov (.tmp 22)⟩,
    ⟨some 24, some (23, true), .faddr 5 (.tmp 4)⟩,
    ⟨some 25, some (23, true), .load true 1 (.tmp 24)⟩,
    ⟨some 26, some (23, true), .bin .eql (.tmp 25) (.const (.int .i64 0))⟩,
    ⟨some 27, none, .pick (.tmp 23) (.tmp 26) (.const (.bool false))⟩,
    ⟨some 28, none, .mov (.tmp 27)⟩,
    ⟨some 29, some (28, true), .mov (.tmp 0)⟩,
    ⟨some 30, some (28, true), .nilCheck (.tmp 29)⟩,
    ⟨some 31, some (28, true), .faddr 5 (.tmp 30)⟩,
    ⟨some 32, some (28, true), .load true 1 (.tmp 31)⟩,
    ⟨some 33, some (28, true), .bin .eql (.tmp 32) (.const (.int .i64 2))⟩,
    ⟨some 34, some (28, true), .mov (.tmp 33)⟩,
    ⟨some 35, some (34, false), .mov (.tmp 3)⟩,
    ⟨some 36, some (34, false), .mov (.tmp 0)⟩,
    ⟨some 37, some (34, false), .nilCheck (.tmp 36)⟩,
    ⟨some 38, some (34, false), .faddr 6 (.tmp 37)⟩,
    ⟨some 39, some (34, false), .load true 1 (.tmp 38)⟩,
    ⟨some 40, some (34, false), .bin .lss (.tmp 35) (.tmp 39)⟩,
    ⟨some 41, some (28, true), .pick (.tmp 34) (.const (.bool true)) (.tmp 40)⟩,
    ⟨some 42, none, .pick (.tmp 28) (.tmp 41) (.const (.bool false))⟩]) (.cond (.tmp 42) (.seq (.reg [
    ⟨some 2, none, .mov (.const (.bool false))⟩]) (.ret)) (.skip))) (.seq (.reg [
    ⟨some 5, none, .mov (.const (.int .i64 0))⟩]) (.seq (.seq (.reg [
    ⟨some 43, none, .faddr 5 (.tmp 4)⟩,
    ⟨some 44, none, .load true 1 (.tmp 43)⟩,
    ⟨some 45, none, .bin .eql (.tmp 44) (.const (.int .i64 2))⟩]) (.cond (.tmp 45) (.reg [
    ⟨some 46, none, .faddr 7 (.tmp 4)⟩,
    ⟨some 47, none, .load true 1 (.tmp 46)⟩,
    ⟨some 48, none, .lenS (.tmp 47)⟩,
    ⟨some 5, none, .mov (.tmp 48)⟩]) (.seq (.reg [
    ⟨some 49, none, .mov (.tmp 0)⟩,
    ⟨some 50, none, .nilCheck (.tmp 49)⟩,
    ⟨some 51, none, .faddr 5 (.tmp 50)⟩,
    ⟨some 52, none, .load true 1 (.tmp 51)⟩,
    ⟨some 53, none, .bin .eql (.tmp 52) (.const (.int .i64 2))⟩,
    ⟨some 54, none, .mov (.tmp 53)⟩,
    ⟨some 55, some (54, true), .mov (.tmp 0)⟩,
    ⟨some 56, some (54, true), .nilCheck (.tmp 55)⟩,
    ⟨some 57, some (54, true), .faddr 8 (.tmp 56)⟩,
    ⟨some 58, some (54, true), .load true 1 (.tmp 57)⟩,
    ⟨some 59, some (54, true), .lenS (.tmp 58)⟩,
    ⟨some 60, some (54, true), .bin .gtr (.tmp 59) (.const (.int .i64 0))⟩,
    ⟨some 61, none, .pick (.tmp 54) (.tmp 60) (.const (.bool false))⟩,
    ⟨some 62, none, .mov (.tmp 61)⟩,
    ⟨some 63, some (62, true), .mov (.tmp 0)⟩,
    ⟨some 64, some (62, true), .nilCheck (.tmp 63)⟩,
    ⟨some 65, some (62, true), .faddr 8 (.tmp 64)⟩,
    ⟨some 66, some (62, true), .load true 1 (.tmp 65)⟩,
    ⟨some 67, some (62, true), .iaddr 1 (.tmp 66) (.const (.int .i64 0))⟩,
    ⟨some 68, some (62, true), .load true 1 (.tmp 67)⟩,
    ⟨some 69, some (62, true), .mov (.tmp 3)⟩,
    ⟨some 70, some (62, true), .bin .eql (.tmp 68) (.tmp 69)⟩,
    ⟨some 71, none, .pick (.tmp 62) (.tmp 70) (.const (.bool false))⟩]) (.cond (.tmp 71) (.reg [
    ⟨some 72, none, .mov (.tmp 0)⟩,
    ⟨some 73, none, .nilCheck (.tmp 72)⟩,
    ⟨some 74, none, .faddr 7 (.tmp 73)⟩,
    ⟨some 75, none, .load true 1 (.tmp 74)⟩,
    ⟨some 5, none, .mov (.tmp 75)⟩]) (.skip))))) (.seq (.reg [
    ⟨some 76, none, .faddr 7 (.tmp 4)⟩,
    ⟨some 77, none, .load true 1 (.tmp 76)⟩,
    ⟨some 78, none, .mov (.tmp 5)⟩,
    ⟨some 79, none, .slc 6 (.tmp 77) none (some (.tmp 78))⟩,
    ⟨some 80, none, .lenS (.tmp 79)⟩,
    ⟨some 81, none, .mov (.const (.int .i64 0))⟩]) (.block 2 (.loop (.seq (.reg [
    ⟨some 82, none, .bin .lss (.tmp 81) (.tmp 80)⟩]) (.seq (.cond (.tmp 82) (.skip) (.exit 2)) (.seq (.block 3 (.seq (.reg [
    ⟨some 83, none, .iaddr 6 (.tmp 79) (.tmp 81)⟩,
    ⟨some 84, none, .load false 6 (.tmp 83)⟩,
    ⟨some 7, none, .alloc true [.int .i64 0, .int .i64 0, .int .i64 0, .int .i64 0, .int .i64 0, .int .i64 0]⟩,
    ⟨none, none, .store 6 (.tmp 7) (.tmp 84)⟩]) (.seq (.reg [
    ⟨some 85, none, .mov (.tmp 0)⟩,
    ⟨some 86, none, .faddr 0 (.tmp 7)⟩,
    ⟨some 87, none, .load false 3 (.tmp 86)⟩,
    ⟨some 88, none, .call 148 [.tmp 85, .tmp 87]⟩,
    ⟨some 89, none, .mov (.tmp 88)⟩,
    ⟨some 90, some (89, false), .mov (.tmp 0)⟩,
    ⟨some 91, some (89, false), .faddr 3 (.tmp 7)⟩,
    ⟨some 92, some (89, false), .load false 3 (.tmp 91)⟩,
    ⟨some 93, some (89, false), .call 148 [.tmp 90, .tmp 92]⟩,
    ⟨some 94, none, .pick (.tmp 89) (.const (.bool true)) (.tmp 93)⟩]) (.cond (.tmp 94) (.seq (.reg [
    ⟨some 2, none, .mov (.const (.bool false))⟩]) (.ret)) (.skip))))) (.reg [
    ⟨some 95, none, .bin .add (.tmp 81) (.const (.int .i64 1))⟩,
    ⟨some 81, none, .mov (.tmp 95)⟩])))))))))))) (.reg [
    ⟨some 96, none, .bin .add (.tmp 16) (.const (.int .i64 1))⟩,
    ⟨some 16, none, .mov (.tmp 96)⟩]))))))) (.seq (.reg [
    ⟨some 2, none, .mov (.const (.bool true))⟩]) (.ret))))
theorem t101 : Try.f101.body.bind (trC e101) = some c101 := by kernel_rfl
theorem r101 : Try.f101.results.toList.mapM (trR Try.prog) = some [.tmp 2] := by kernel_rfl
theorem fn101 {args : List Value} {M : Mem} {post : Value → Mem → Prop} (hl : args.length ≤ 97) (h : VC e101 c101 (fnQ [.tmp 2] post) (initS args 97) M) : Fn Try.prog 101 args M post :=
  Fn.of' (E := e101) Try.func101 t101 rfl r101 mixed hl h
noncomputable def e102 : Env := ⟨Try.prog, [], 33, []⟩
noncomputable def c102 : C :=
  .seq (.reg [
    ⟨some 2, none, .mov (.const (.bool false))⟩]) (.seq (.seq (.reg [
    ⟨some 4, none, .mov (.tmp 0)⟩,
    ⟨some 5, none, .nilCheck (.tmp 4)⟩,
    ⟨some 6, none, .faddr 6 (.tmp 5)⟩,
    ⟨some 7, none, .load true 1 (.tmp 6)⟩,
    ⟨some 3, none, .mov (.tmp 7)⟩]) (.block 0 (.loop (.seq (.seq (.reg [
    ⟨some 8, none, .mov (.tmp 0)⟩,
    ⟨some 9, none, .nilCheck (.tmp 8)⟩,
    ⟨some 10, none, .faddr 5 (.tmp 9)⟩,
    ⟨some 11, none, .load true 1 (.tmp 10)⟩,
    ⟨some 12, none, .bin .eql (.tmp 11) (.const (.int .i64 6))⟩,
    ⟨some 13, none, .mov (.tmp 12)⟩,
    ⟨some 14, some (13, true), .mov (.tmp 3)⟩,
    ⟨some 15, some (13, true), .mov (.tmp 0)⟩,
    ⟨some 16, some (13, true), .nilCheck (.tmp 15)⟩,
    ⟨some 17, some (13, true), .faddr 4 (.tmp 16)⟩,
    ⟨some 18, some (13, true), .load true 1 (.tmp 17)⟩,
    ⟨some 19, some (13, true), .lenS (.tmp 18)⟩,
    ⟨some 20, some (13, true), .bin .lss (.tmp 14) (.tmp 19)⟩,
    ⟨some 21, none, .pick (.tmp 13) (.tmp 20) (.const (.bool false))⟩]) (.cond (.tmp 21) (.skip) (.exit 0))) (.seq (.block 1 (.seq (.reg [
    ⟨some 24, none, .mov (.tmp 0)⟩,
    ⟨some 25, none, .nilCheck (.tmp 24)⟩,
    ⟨some 26, none, .faddr 4 (.tmp 25)⟩,
    ⟨some 27, none, .load true 1 (.tmp 26)⟩,
    ⟨some 28, none, .mov (.tmp 3)⟩,
    ⟨some 29, none, .iaddr 8 (.tmp 27) (.tmp 28)⟩,
    ⟨some 30, none, .faddr 0 (.tmp 29)⟩,
    ⟨some 31, none, .load true 1 (.tmp 30)⟩,
    ⟨some 32, none, .bin .eql (.tmp 31) (.const (.int .i64 2))⟩]) (.cond (.tmp 32) (.seq (.reg [
    ⟨some 2, none, .mov (.const (.bool false))⟩]) (.ret)) (.skip)))) (.reg [
    ⟨some 22, none, .mov (.tmp 3)⟩,
    ⟨some 23, none, .bin .add (.tmp 22) (.const (.int .i64 1))⟩,
    ⟨some 3, none, .mov (.tmp 23)⟩])))))) (.seq (.reg [
    ⟨some 2, none, .mov (.const (.bool true))⟩]) (.ret)))
theorem t102 : Try.f102.body.bind (trC e102) = some c102 := by kernel_rfl
theorem r102 : Try.f102.results.toList.mapM (trR Try.prog) = some [.tmp 2] := by kernel_rfl
theorem fn102 {args : List Value} {M : Mem} {post : Value → Mem → Prop} (hl : args.length ≤ 33) (h : VC e102 c102 (fnQ [.tmp 2] post) (initS args 33) M) : Fn Try.prog 102 args M post :=
  Fn.of' (E := e102) Try.func102 t102 rfl r102 mixed hl h
noncomputable def e33 : Env := ⟨Try.prog, [], 26, []⟩
noncomputable def c33 : C :=
  .seq (.reg [
    ⟨some 1, none, .box false (.tmp 0)⟩,
    ⟨some 2, none, .mov (.const (.int .i64 0))⟩]) (.seq (.seq (.reg [
    ⟨some 5, none, .mkfn 95 [.tmp 1] []⟩,
    ⟨some 6, none, .mkfn 96 [.tmp 1] []⟩,
    ⟨some 7, none, .mkfn 97 [.tmp 1] []⟩,
    ⟨some 8, none, .mkfn 98 [.tmp 1] []⟩,
    ⟨some 9, none, .mkfn 99 [.tmp 1] []⟩,
    ⟨some 10, none, .mkfn 100 [.tmp 1] []⟩,
    ⟨some 11, none, .mkfn 101 [.tmp 1] []⟩,
    ⟨some 12, none, .mkfn 102 [.tmp 1] []⟩,
    ⟨some 13, none, .bslice false 8 1 [.nilFunc, .nilFunc, .nilFunc, .nilFunc, .nilFunc, .nilFunc, .nilFunc, .nilFunc] [(0, 1, .tmp 5), (1, 1, .tmp 6), (2, 1, .tmp 7), (3, 1, .tmp 8), (4, 1, .tmp 9), (5, 1, .tmp 10), (6, 1, .tmp 11), (7, 1, .tmp 12)]⟩,
    ⟨some 14, none, .lenS (.tmp 13)⟩,
    ⟨some 15, none, .mov (.const (.int .i64 0))⟩]) (.block 0 (.loop (.seq (.reg [
    ⟨some 16, none, .bin .lss (.tmp 15) (.tmp 14)⟩]) (.seq (.cond (.tmp 16) (.skip) (.exit 0)) (.seq (.block 1 (.seq (.reg [
    ⟨some 17, none, .mov (.tmp 15)⟩,
    ⟨some 18, none, .iaddr 1 (.tmp 13) (.tmp 15)⟩,
    ⟨some 19, none, .load true 1 (.tmp 18)⟩,
    ⟨some 3, none, .mov (.tmp 17)⟩,
    ⟨some 4, none, .mov (.tmp 19)⟩]) (.seq (.reg [
    ⟨some 20, none, .mov (.tmp 4)⟩,
    ⟨some 21, none, .callv (.tmp 20) []⟩,
    ⟨some 22, none, .not (.tmp 21)⟩]) (.cond (.tmp 22) (.seq (.reg [
    ⟨some 23, none, .mov (.tmp 3)⟩,
    ⟨some 24, none, .bin .add (.tmp 23) (.const (.int .i64 1))⟩,
    ⟨some 2, none, .mov (.tmp 24)⟩]) (.ret)) (.skip))))) (.reg [
    ⟨some 25, none, .bin .add (.tmp 15) (.const (.int .i64 1))⟩,
    ⟨some 15, none, .mov (.tmp 25)⟩]))))))) (.seq (.reg [
    ⟨some 2, none, .mov (.const (.int .i64 0))⟩]) (.ret)))
theorem t33 : Try.f33.body.bind (trC e33) = some c33 := by kernel_rfl
theorem r33 : Try.f33.results.toList.mapM (trR Try.prog) = some [.tmp 2] := by kernel_rfl
theorem fn33 {args : List Value} {M : Mem} {post : Value → Mem → Prop} (hl : args.length ≤ 26) (h : VC e33 c33 (fnQ [.tmp 2] post) (initS args 26) M) : Fn Try.prog 33 args M post :=
  Fn.of' (E := e33) Try.func33 t33 rfl r33 mixed hl h
noncomputable def e105 : Env := ⟨Try.prog, [1], 6, []⟩
noncomputable def c105 : C :=
  .seq (.reg [
    ⟨some 1, none, .box true (.tmp 0)⟩,
    ⟨some 2, none, .mov (.const (.bool false))⟩]) (.seq (.reg [
    ⟨some 3, none, .load false 13 (.tmp 1)⟩,
    ⟨some 4, none, .call 33 [.tmp 3]⟩,
    ⟨some 5, none, .bin .eql (.tmp 4) (.const (.int .i64 0))⟩,
    ⟨some 2, none, .mov (.tmp 5)⟩]) (.ret))
theorem t105 : Try.f105.body.bind (trC e105) = some c105 := by kernel_rfl
theorem r105 : Try.f105.results.toList.mapM (trR Try.prog) = some [.tmp 2] := by kernel_rfl
theorem fn105 {args : List Value} {M : Mem} {post : Value → Mem → Prop} (hl : args.length ≤ 6) (h : VC e105 c105 (fnQ [.tmp 2] post) (initS args 6) M) : Fn Try.prog 105 args M post :=
  Fn.of' (E := e105) Try.func105 t105 rfl r105 mixed hl h
noncomputable def e6 : Env := ⟨Try.prog, [1, 5], 27, [(10, 0)]⟩
theorem r6 : Try.f6.results.toList.mapM (trR Try.prog) = some [.tmp 2] := by kernel_rfl
end Go.Proofs.Ytcmllambknfleaa.E
set_option linter.unusedVariables false
set_option linter.unusedSimpArgs false
set_option maxHeartbeats 4000000
set_option maxRecDepth 100000
namespace Go.Proofs.Ytcmllambknfleaa.E
open Go
open Classical
theorem unitsN_nn (cs : List Cell) : 0 ≤ unitsN cs := by
  unfold unitsN
  induction cs with
  | nil => simp
  | cons c r ih =>
    simp only [List.map_cons, List.sum_cons]
    have : 0 ≤ c.units := by unfold Cell.units; split <;> omega
    omega
theorem unitsN_take {cs : List Cell} {i : Nat} {c : Cell} (h : cs[i]? = some c) : unitsN (cs.take (i + 1)) = unitsN (cs.take i) + c.units := by
  unfold unitsN
  rw [List.take_add_one, h]; simp
theorem unitsN_le {cs : List Cell} (h : ∀ c, c ∈ cs → c.pairs.length ≤ 200) : ∀ i : Nat, unitsN (cs.take i) ≤ 201 * i := by
  intro i
  induction i with
  | zero => simp [unitsN]
  | succ i ih =>
    cases hc : cs[i]? with
    | none => 
      have hl : cs.length ≤ i := List.getElem?_eq_none_iff.1 hc
      rw [List.take_of_length_le (by omega)] at ih ⊢; omega
    | some c =>
      rw [unitsN_take hc]
      have := h c (List.mem_of_getElem? hc)
      have : c.units ≤ 201 := by unfold Cell.units; split <;> omega
      omega
theorem R2.pl {H : Heap} (h : R2 H) {c : Cell} (hc : c ∈ H.cells) : c.pairs.length ≤ 200 := by
  obtain ⟨i, hi⟩ := List.getElem?_of_mem hc
  rcases h.each i c hi with h | h | h
  · rw [h.2.1.2.2.2.2.2]; simp
  · rw [h.2.1.2.2.2.2.2]; simp
  · exact h.2.2.2.2.2.2.2
theorem HX.at {x : HX} {i : Nat} (h : i < x.xs.length) : ∃ y, x.xs[i]? = some y ∧ x.H.cells[i]? = some y.c := by
  refine ⟨_, List.getElem?_eq_getElem h, ?_⟩
  simp [HX.H, List.getElem?_map, List.getElem?_eq_getElem h]
theorem rule3_q {m : Mem} {a : Nat} {x : HX} (h : Has m (hp a x)) (h1 : R1 x.H) (h2 : R2 x.H) : Qt Try.prog 97 [ptr a] m (.bool (decide (R3 x.H))) := by
  have hc := h1.cells
  have hr := h1.room
  have hl := x.len
  have hu := unitsN_le (cs := x.H.cells) (fun c => h2.pl)
  refine qt_of (fnA_of (fun h => fn97 (by simp) h) ?_)
  repeat' (first
    | (refine k_L ?_; first | refine a_p rfl ?_ | (refine k_l ?_; refine g_l rfl ?_))
    | refine a_n ?_
    | (refine k_V ?_; first | refine v_seq ?_ | refine v_reg ?_)
    | refine s_n ?_)
  refine g_range x.xs.length (fun n : Int => [(0, .v (ptr a)), (3, .v (.int .i64 n)), (9, .v (.slice x.cd.a x.xs.length x.cd.cap))]) (fun _ => [ro m]) (fun i n => n = unitsN (x.H.cells.take i)) 0 rfl (fun i n hi hn => ?_) (fun n hn => ?_)
  · obtain ⟨y, gy, gc⟩ := HX.at hi
    have hu1 := hu i
    have hu2 := hu (i + 1)
    have hu3 := unitsN_nn (x.H.cells.take i)
    rw [unitsN_take gc] at hu2
    have hp := h2.pl (List.mem_of_getElem? gc)
    have hu4 : 0 ≤ y.c.units := by unfold Cell.units; split <;> omega
    repeat' (first
      | (refine k_L ?_; first | (refine k_ad ?_; refine g_ad rfl rfl ?_) | refine a_p rfl ?_ | (refine k_i ?_; refine g_i rfl rfl ?_) | (refine k_ls ?_; refine g_ls rfl ?_) | (refine k_st ?_; refine g_sw rfl rfl rfl rfl (Nat.le_of_ble_eq_true rfl) ?_) | (refine k_al ?_; refine a_al ?_) | (refine k_c ?_; refine a_cq rfl (fun m hm => units_q (y := y) (by omega)) ?_))
      | refine a_n ?_
      | (refine k_V ?_; first | refine v_seq ?_ | refine v_reg ?_)
      | refine sk_zero ?_
      | refine sk_succ ?_
      | refine wk_nil ?_
      | refine wk_cons ?_)
    exact r_nx (n + y.c.units) (by rw [unitsN_take gc, hn])
  · rw [List.take_of_length_le (by omega)] at hn
    subst hn
    repeat' (first
      | (refine k_L ?_; first | refine a_p rfl ?_ | (refine k_g ?_; first | refine a_gy rfl rfl ?_ | refine a_gn rfl rfl ?_ | (refine a_gd rfl (fun hb => ?_) (fun hb => ?_) <;> try (exfalso; omega))) | (refine k_l ?_; refine g_l rfl ?_))
      | refine a_n ?_
      | (refine k_V ?_; first | refine v_seq ?_ | refine v_reg ?_ | refine v_ret ?_))
    all_goals refine fa_r (fun _ _ => rfl) (Ent.refl _) ⟨bool_dec ?_, rfl⟩
    all_goals simp_all [R3, HX.hdr, HX.H]
    all_goals trace_state
end Go.Proofs.Ytcmllambknfleaa.E
set_option linter.unusedVariables false
set_option linter.unusedSimpArgs false
set_option maxHeartbeats 4000000
set_option maxRecDepth 100000
namespace Go.Proofs.Ytcmllambknfleaa.E
open Go
open Classical
theorem ret_t {p : Prop} {_ : Decidable p} (h : p) : Value.bool true = .bool (decide p) := by rw [decide_eq_true h]
theorem ret_f {p : Prop} {_ : Decidable p} (h : ¬ p) : Value.bool false = .bool (decide p) := by rw [decide_eq_false h]
theorem Has.lens {m : Mem} {a : Nat} {x : HX} (h : Has m (hp a x)) : x.regs.length ≤ 140737488355328 ∧ x.xs.length ≤ 140737488355328 ∧ x.gray.length ≤ 140737488355328 := by
  obtain ⟨b, l, s⟩ := h
  refine ⟨(kn_t (kn_h bd_sl) : Kn (hp a x) _).out b s, (kn_t (kn_t (kn_h kb_cl)) : Kn (hp a x) _).out b s, (kn_t (kn_t (kn_t (kn_h bd_sl))) : Kn (hp a x) _).out b s⟩
theorem R1_iff (H : Heap) : R1 H ↔ ((1 ≤ H.room ∧ H.room ≤ 4000) ∧ H.regs.length = 16 ∧ (H.cells.length : Int) ≤ 2 * H.room ∧ H.gray.length ≤ H.cells.length ∧ (0 ≤ H.born ∧ H.born ≤ 1000000000) ∧ (0 ≤ H.rounds ∧ H.rounds ≤ 1000000000) ∧ (0 ≤ H.forced ∧ H.forced ≤ 1000000000) ∧ (0 ≤ H.per ∧ H.per ≤ 64) ∧ (0 ≤ H.start ∧ H.start ≤ 4000) ∧ (0 ≤ H.phase ∧ H.phase ≤ 6) ∧ (0 ≤ H.hand ∧ H.hand ≤ H.cells.length) ∧ (0 ≤ H.sub ∧ H.sub ≤ 200)) :=
  ⟨fun ⟨a, b, c, d, e, f, g, h, i, j, k, l⟩ => ⟨a, b, c, d, e, f, g, h, i, j, k, l⟩, fun ⟨a, b, c, d, e, f, g, h, i, j, k, l⟩ => ⟨a, b, c, d, e, f, g, h, i, j, k, l⟩⟩
theorem rule1_q {m : Mem} {a : Nat} {x : HX} (h : Has m (hp a x)) : Qt Try.prog 95 [ptr a] m (.bool (decide (R1 x.H))) := by
  have hb := h.lens
  refine qt_of (fnA_of (fun h => fn95 (by simp) h) ?_)
  repeat' (first
    | (refine k_L ?_; first | (refine k_ml ?_; refine g_ml rfl rfl ?_) | refine a_p rfl ?_ | (refine k_g ?_; first | refine a_gy rfl rfl ?_ | refine a_gn rfl rfl ?_ | (refine a_gd rfl (fun hb => ?_) (fun hb => ?_) <;> try (exfalso; omega))) | (refine k_l ?_; refine g_l rfl ?_) | (refine k_c ?_; refine a_cq rfl (fun m hm => impl.withinQ) ?_))
    | refine a_n ?_
    | (refine k_V ?_; first | refine v_seq ?_ | refine v_reg ?_ | refine v_ret ?_))
  all_goals refine fa_r (fun _ _ => rfl) (Ent.refl _) ⟨bool_dec ?_, rfl⟩
  all_goals (rw [R1_iff]; (try simp only [decide_eq_true_eq]); simp only [HX.hdr, Hdr.s_room, Hdr.s_used, Hdr.s_born, Hdr.s_phase, Hdr.s_hand, Hdr.s_sub, Hdr.s_per, Hdr.s_start, Hdr.s_rounds, Hdr.s_forced, Hdr.s_rd, Hdr.s_cd, Hdr.s_gd, HX.H, List.length_map] at *)
  all_goals simp_all
  all_goals omega
/-- the cell at a place that the heap has -/
theorem HX.atI {x : HX} {i : Int} (h0 : 0 ≤ i) (h : i < x.xs.length) : ∃ y, x.xs[i.toNat]? = some y ∧ x.H.getC i = y.c := by
  obtain ⟨y, h1, h2⟩ := HX.at (x := x) (i := i.toNat) (by omega)
  refine ⟨y, h1, ?_⟩
  unfold Heap.getC
  rw [List.getD_eq_getElem?_getD, h2]; rfl
end Go.Proofs.Ytcmllambknfleaa.E
set_option linter.unusedVariables false
set_option linter.unusedSimpArgs false
set_option maxHeartbeats 4000000
set_option maxRecDepth 100000
namespace Go.Proofs.Ytcmllambknfleaa.E
open Go
open Classical
theorem rule6_q {m : Mem} {a : Nat} {x : HX} (h : Has m (hp a x)) (h1 : R1 x.H) (h5 : R5 x.H) : Qt Try.prog 100 [ptr a] m (.bool (decide (R6 x.H))) := by
  have hb := h.lens
  have hh := h1.hand
  have hl := x.len
  refine qt_of (fnA_of (fun h => fn100 (by simp) h) ?_)
  by_cases hp2 : x.phase = 2
  · have hm := (h5.mark (.inr hp2)).2.1
    have hp2' : x.hdr.phase = 2 := hp2
    cases hg : x.gray with
    | nil =>
      have hgl : (x.hdr.ng : Int) = 0 := by simp [HX.hdr, hg]
      have hgl2 : x.gray.length = 0 := by simp [hg]
      have hg' : x.H.gray = [] := hg
      repeat' (first
        | (refine k_L ?_; first | refine a_p rfl ?_ | (refine k_l ?_; refine g_l rfl ?_))
        | refine a_n ?_
        | (refine k_V ?_; first | refine v_rv ?_ | refine v_seq ?_ | refine v_reg ?_ | refine v_bs ?_ | refine v_ret ?_ | refine v_skip ?_ | (refine v_cd rfl (fun hb => ?_) (fun hb => ?_) <;> try (exfalso; omega)) | (refine v_cn rfl (fun hb => ?_) (fun hb => ?_) <;> try (exfalso; omega)))
        | refine s_r ?_
        | refine b_r ?_)
      all_goals refine fa_r (fun _ _ => rfl) (Ent.refl _) ⟨bool_dec ?_, rfl⟩
      all_goals simp_all [R6, HX.hdr, Hdr.s_room, Hdr.s_used, Hdr.s_born, Hdr.s_phase, Hdr.s_hand, Hdr.s_sub, Hdr.s_per, Hdr.s_start, Hdr.s_rounds, Hdr.s_forced, Hdr.s_rd, Hdr.s_cd, Hdr.s_gd, HX.H]
    | cons g r =>
      have hgl1 : (x.hdr.ng : Int) = r.length + 1 := by simp [HX.hdr, hg]
      have hg' : x.H.gray = g :: r := hg
      obtain ⟨g0, g1, _⟩ := hm g (by rw [hg']; simp)
      obtain ⟨y, gy, gc⟩ := HX.atI (x := x) g0 (by omega)
      have g00 : x.gray[(0 : Int).toNat]? = some g := by rw [hg]; rfl
      have hgl : (x.gray.length : Int) = r.length + 1 := by rw [hg]; simp
      repeat' (first
        | (refine k_L ?_; first | refine a_p rfl ?_ | (refine k_l ?_; refine g_l rfl ?_) | (refine k_i ?_; refine g_i rfl rfl ?_))
        | refine a_n ?_
        | (refine k_V ?_; first | refine v_rv ?_ | refine v_seq ?_ | refine v_reg ?_ | refine v_dreg ?_ | refine v_bs ?_ | refine v_ret ?_ | refine v_skip ?_ | (refine v_cd rfl (fun hb => ?_) (fun hb => ?_) <;> try (exfalso; omega)) | (refine v_cn rfl (fun hb => ?_) (fun hb => ?_) <;> try (exfalso; omega)))
        | refine s_r ?_
        | refine b_r ?_)
      all_goals refine fa_r (fun _ _ => rfl) (Ent.refl _) ⟨bool_dec ?_, rfl⟩
      all_goals simp_all [R6, HX.hdr, Hdr.s_room, Hdr.s_used, Hdr.s_born, Hdr.s_phase, Hdr.s_hand, Hdr.s_sub, Hdr.s_per, Hdr.s_start, Hdr.s_rounds, Hdr.s_forced, Hdr.s_rd, Hdr.s_cd, Hdr.s_gd]
      all_goals simp_all [HX.H]
  · have hp2' : ¬ x.hdr.phase = 2 := hp2
    by_cases hh5 : x.hand < x.xs.length
    · obtain ⟨y, gy, gc⟩ := HX.atI (x := x) hh.1 hh5
      have hh5' : x.hdr.hand < x.hdr.nc := hh5
      repeat' (first
        | (refine k_L ?_; first | refine a_p rfl ?_ | (refine k_g ?_; first | refine a_gy rfl rfl ?_ | refine a_gn rfl rfl ?_ | (refine a_gd rfl (fun hb => ?_) (fun hb => ?_) <;> try (exfalso; omega))) | (refine k_l ?_; refine g_l rfl ?_) | (refine k_i ?_; refine g_i rfl rfl ?_))
        | refine a_n ?_
        | (refine k_V ?_; first | refine v_seq ?_ | refine v_reg ?_ | refine v_dreg ?_ | refine v_bs ?_ | refine v_ret ?_ | refine v_skip ?_ | (refine v_cd rfl (fun hb => ?_) (fun hb => ?_) <;> try (exfalso; omega)))
        | refine s_r ?_
        | refine b_r ?_)
      all_goals refine fa_r (fun _ _ => rfl) (Ent.refl _) ⟨bool_dec ?_, rfl⟩
      all_goals simp_all [R6, HX.hdr, Hdr.s_room, Hdr.s_used, Hdr.s_born, Hdr.s_phase, Hdr.s_hand, Hdr.s_sub, Hdr.s_per, Hdr.s_start, Hdr.s_rounds, Hdr.s_forced, Hdr.s_rd, Hdr.s_cd, Hdr.s_gd]
      all_goals simp_all [HX.H]
    · have hh5' : ¬ (x.hdr.hand < x.hdr.nc) := hh5
      repeat' (first
        | (refine k_L ?_; first | refine a_p rfl ?_ | (refine k_g ?_; first | refine a_gy rfl rfl ?_ | refine a_gn rfl rfl ?_ | (refine a_gd rfl (fun hb => ?_) (fun hb => ?_) <;> try (exfalso; omega))) | (refine k_l ?_; refine g_l rfl ?_))
        | refine a_n ?_
        | (refine k_V ?_; first | refine v_seq ?_ | refine v_reg ?_ | refine v_dreg ?_ | refine v_bs ?_ | refine v_ret ?_ | refine v_skip ?_ | refine v_cf rfl ?_ | (refine v_cd rfl (fun hb => ?_) (fun hb => ?_) <;> try (exfalso; omega)))
        | refine s_r ?_
        | refine b_r ?_)
      all_goals refine fa_r (fun _ _ => rfl) (Ent.refl _) ⟨bool_dec ?_, rfl⟩
      all_goals simp_all [R6, HX.hdr, Hdr.s_room, Hdr.s_used, Hdr.s_born, Hdr.s_phase, Hdr.s_hand, Hdr.s_sub, Hdr.s_per, Hdr.s_start, Hdr.s_rounds, Hdr.s_forced, Hdr.s_rd, Hdr.s_cd, Hdr.s_gd]
      all_goals simp_all [HX.H]
      all_goals (intros; exfalso; omega)
end Go.Proofs.Ytcmllambknfleaa.E
set_option linter.unusedVariables false
set_option linter.unusedSimpArgs false
set_option maxHeartbeats 4000000
set_option maxRecDepth 100000
namespace Go.Proofs.Ytcmllambknfleaa.E
open Go
open Classical
section
variable {m0 m : Mem} {a : Nat} {x : HX} {w : Word} {As F : List Asr} {i k : Int} {mv : Bool}
theorem has_g {Bs : List Asr} (h : Has m0 Bs) (hm : star As m) (hp : Pm As [ro m0] F := by (fail_if_success apply pm_bad); (repeat (first | exact pm_nil | (apply pm_cons; repeat (first | exact pk_h | apply pk_t)))); fail_if_success focus skip) : Has m Bs := h.le (ro_of hm hp)
theorem formed_g (h : Has m0 (hp a x)) (hm : star As m) (hp : Pm As [ro m0] F := by (fail_if_success apply pm_bad); (repeat (first | exact pm_nil | (apply pm_cons; repeat (first | exact pk_h | apply pk_t)))); fail_if_success focus skip) : Qt Try.prog 106 [ptr a, wa w] m (.bool (decide (Formed x.H w))) := formed_q (h.le (ro_of hm hp)).ph
theorem marking_g (h : Has m0 (hp a x)) (hm : star As m) (hp : Pm As [ro m0] F := by (fail_if_success apply pm_bad); (repeat (first | exact pm_nil | (apply pm_cons; repeat (first | exact pk_h | apply pk_t)))); fail_if_success focus skip) : Qt Try.prog 147 [ptr a] m (.bool (decide (Marking x.H))) := marking_q (h.le (ro_of hm hp)).ph
theorem doomed_g (h : Has m0 (hp a x)) (h0 : 0 ≤ i) (h1 : i < x.H.cells.length) (hm : star As m) (hp : Pm As [ro m0] F := by (fail_if_success apply pm_bad); (repeat (first | exact pm_nil | (apply pm_cons; repeat (first | exact pk_h | apply pk_t)))); fail_if_success focus skip) : Qt Try.prog 144 [ptr a, .int .i64 i] m (.bool (decide (Doomed x.H i))) := doomed_q (h.le (ro_of hm hp)).ph h0 h1
theorem mended_g (h : Has m0 (hp a x)) (hm : star As m) (hp : Pm As [ro m0] F := by (fail_if_success apply pm_bad); (repeat (first | exact pm_nil | (apply pm_cons; repeat (first | exact pk_h | apply pk_t)))); fail_if_success focus skip) : Qt Try.prog 146 [ptr a, .int .i64 i, .int .i64 k] m (.bool (decide (Mended x.H i k))) := mended_q (h.le (ro_of hm hp)).ph
theorem white_g (h : Has m0 (hp a x)) (hf : Formed x.H w) (hm : star As m) (hp : Pm As [ro m0] F := by (fail_if_success apply pm_bad); (repeat (first | exact pm_nil | (apply pm_cons; repeat (first | exact pk_h | apply pk_t)))); fail_if_success focus skip) : Qt Try.prog 148 [ptr a, wa w] m (.bool (decide (White x.H w))) := white_q (h.le (ro_of hm hp)).ph hf
theorem leadsWell_g (h : Has m0 (hp a x)) (hf : Formed x.H w) (hm : star As m) (hp : Pm As [ro m0] F := by (fail_if_success apply pm_bad); (repeat (first | exact pm_nil | (apply pm_cons; repeat (first | exact pk_h | apply pk_t)))); fail_if_success focus skip) : Qt Try.prog 143 [ptr a, wa w, .bool mv] m (.bool (decide (LeadsWell x.H w (mv = true)))) := leadsWell_q (h.le (ro_of hm hp)).ph hf
end
theorem fa_q {rl : List RV} {S : St} {m : Mem} {As F : List Asr} {v r : Value} {y : X} (hy : ∀ i, y ≠ .ext i) (h : ∀ m, star As m → resV S m rl = some v) (e : v = r) (hm : Pm As [ro m] F := by (fail_if_success apply pm_bad); (repeat (first | exact pm_nil | (apply pm_cons; repeat (first | exact pk_h | apply pk_t)))); fail_if_success focus skip) : fnA rl (fun v As => v = r ∧ As = [ro m]) y S As := by
  cases y with
  | ext i => exact absurd rfl (hy i)
  | nrm => exact ⟨v, [ro m], h, hm.ent, e, rfl⟩
  | ret => exact ⟨v, [ro m], h, hm.ent, e, rfl⟩
theorem q_T {rl : List RV} {S : St} {m : Mem} {As F : List Asr} {p : Prop} {_ : Decidable p} (hp : p) (h : ∀ m, star As m → resV S m rl = some (.bool true) := by (intro _ _; rfl)) (hm : Pm As [ro m] F := by (fail_if_success apply pm_bad); (repeat (first | exact pm_nil | (apply pm_cons; repeat (first | exact pk_h | apply pk_t)))); fail_if_success focus skip) : fnA rl (fun v As => v = .bool (decide p) ∧ As = [ro m]) .ret S As := ⟨_, [ro m], h, hm.ent, ret_t hp, rfl⟩
theorem q_F {rl : List RV} {S : St} {m : Mem} {As F : List Asr} {p : Prop} {_ : Decidable p} (hp : ¬ p) (h : ∀ m, star As m → resV S m rl = some (.bool false) := by (intro _ _; rfl)) (hm : Pm As [ro m] F := by (fail_if_success apply pm_bad); (repeat (first | exact pm_nil | (apply pm_cons; repeat (first | exact pk_h | apply pk_t)))); fail_if_success focus skip) : fnA rl (fun v As => v = .bool (decide p) ∧ As = [ro m]) .ret S As := ⟨_, [ro m], h, hm.ent, ret_f hp, rfl⟩
theorem q_B {rl : List RV} {S : St} {m : Mem} {As F : List Asr} {p : Prop} {_ : Decidable p} {b : Bool} (h : ∀ m, star As m → resV S m rl = some (.bool b)) (hp : b = true ↔ p) (hm : Pm As [ro m] F := by (fail_if_success apply pm_bad); (repeat (first | exact pm_nil | (apply pm_cons; repeat (first | exact pk_h | apply pk_t)))); fail_if_success focus skip) : fnA rl (fun v As => v = .bool (decide p) ∧ As = [ro m]) .ret S As := ⟨_, [ro m], h, hm.ent, by congr 1; rw [Bool.eq_iff_iff, hp]; simp, rfl⟩
end Go.Proofs.Ytcmllambknfleaa.E
set_option linter.unusedVariables false
set_option linter.unusedSimpArgs false
set_option maxHeartbeats 4000000
set_option maxRecDepth 100000
namespace Go.Proofs.Ytcmllambknfleaa.E
open Go
open Classical
/-- a set, kept as a map to true -/
noncomputable def setM (p : Int → Prop) : Int → Option Value := fun i => if p i then some (.bool true) else none
theorem setM_get {p : Int → Prop} {j : Int} {ok : Bool} (h : ok = false) : (if ok then Value.tuple #[(setM p j).getD (.bool false), .bool (setM p j).isSome] else (setM p j).getD (.bool false)) = .bool (decide (p j)) := by
  subst h
  unfold setM
  by_cases hp : p j <;> simp [hp]
theorem setM_set {p q : Int → Prop} {j : Int} (h : ∀ i, q i ↔ i = j ∨ p i) : (fun i => if i = j then some (Value.bool true) else setM p i) = setM q := by
  funext i
  unfold setM
  by_cases e : i = j
  · simp [e, (h j).2 (.inl rfl)]
  · rw [if_neg e]
    by_cases hp : p i
    · rw [if_pos hp, if_pos ((h i).2 (.inr hp))]
    · rw [if_neg hp, if_neg (fun hq => ((h i).1 hq).elim e hp)]
theorem setM_none : (fun _ => none : Int → Option Value) = setM (fun _ => False) := by funext i; simp [setM]
theorem rule5_q {m : Mem} {a : Nat} {x : HX} (h : Has m (hp a x)) : Qt Try.prog 99 [ptr a] m (.bool (decide (R5 x.H))) := by
  have hb := h.lens
  have hl := x.len
  refine qt_of (fnA_of (fun h => fn99 (by simp) h) ?_)
  repeat' (first
    | (refine k_L ?_; first | refine a_p rfl ?_ | (refine k_l ?_; refine g_l rfl ?_) | (refine k_c ?_; refine a_cq rfl (fun m hm => marking_g h hm) ?_))
    | refine a_n ?_
    | (refine k_V ?_; first | refine v_seq ?_ | refine v_reg ?_ | refine v_skip ?_ | (refine v_cd rfl (fun hb => ?_) (fun hb => ?_) <;> try (exfalso; omega)))
    | refine s_n ?_)
  · have hmk := hb
    refine a_mm (fun b => ?_)
    rw [setM_none, show (fun _ => False : Int → Prop) = fun g => g ∈ x.gray.take 0 from by funext g; simp]
    repeat' (first
      | (refine k_L ?_; first | refine a_p rfl ?_ | (refine k_l ?_; refine g_l rfl ?_))
      | refine a_n ?_
      | (refine k_V ?_; first | refine v_seq ?_ | refine v_reg ?_)
      | refine s_n ?_)
    refine g_range x.gray.length (fun _ : Nat => [(0, .v (ptr a)), (3, .v (.map (some b))), (16, .v (.slice x.gd.a x.gray.length x.gd.cap))]) (fun i => [mpA b (setM (fun g => g ∈ x.gray.take i)), ro m]) (fun i j => j = i ∧ (x.gray.take i).Nodup ∧ ∀ g, g ∈ x.gray.take i → 0 ≤ g ∧ g < x.H.cells.length ∧ (x.H.getC g).state = 1 ∧ (x.H.getC g).color = 1) 0 ⟨rfl, by simp, by simp⟩ (fun i j hi hv => ?_) (fun j hv => ?_)
    · obtain ⟨rfl, hnd, hv⟩ := hv
      obtain ⟨g, gg⟩ : ∃ g, x.gray[j]? = some g := ⟨_, List.getElem?_eq_getElem hi⟩
      have hgm := List.mem_of_getElem? gg
      have hnc : (x.hdr.nc : Int) = x.H.cells.length := by rw [hl]; rfl
      have htk : x.gray.take (j + 1) = x.gray.take j ++ [g] := by rw [List.take_add_one, gg]; rfl
      have hnin : x.H.gray.Nodup → g ∉ x.gray.take j := by
        intro hn hm
        have : x.gray = x.gray.take j ++ x.gray.drop j := (List.take_append_drop _ _).symm
        have hn' : (x.gray.take j ++ x.gray.drop j).Nodup := by rw [← this]; exact hn
        rw [List.nodup_append] at hn'
        refine hn'.2.2 g hm g ?_ rfl
        refine List.mem_of_getElem? (i := 0) ?_
        rw [List.getElem?_drop]; simpa using gg
      by_cases hin : 0 ≤ g ∧ g < x.H.cells.length
      · obtain ⟨y, gy, gc⟩ := HX.atI (x := x) hin.1 (by omega)
        repeat' (first
          | (refine k_L ?_; first | (refine k_su ?_; refine g_su rfl rfl ?_) | refine a_p rfl ?_ | (refine k_g ?_; first | refine a_gy rfl rfl ?_ | refine a_gn rfl rfl ?_ | (refine a_gd rfl (fun hb => ?_) (fun hb => ?_) <;> try (exfalso; omega)) | (refine a_gne rfl (fun hb => ?_) (fun hb => ?_) <;> try (exfalso; omega)) | (refine a_gnd rfl (fun hb => ?_) (fun hb => ?_) <;> try (exfalso; omega))) | (refine k_l ?_; refine g_l rfl ?_) | (refine k_i ?_; refine g_i rfl rfl ?_) | (refine k_c ?_; refine a_cq rfl (fun m hm => impl.withinQ) ?_) | (refine a_lk (by (fail_if_success apply pk_bad); (repeat (first | exact pk_h | apply pk_t)); fail_if_success focus skip) rfl rfl (setM_get rfl) ?_) | (refine a_mu (by (fail_if_success apply pk_bad); (repeat (first | exact pk_h | apply pk_t)); fail_if_success focus skip) rfl rfl rfl ?_; rw [setM_set (q := fun g => g ∈ x.gray.take (j + 1)) (fun i => by rw [htk]; simp [or_comm])]))
          | refine a_n ?_
          | (refine k_V ?_; first | refine v_rv ?_ | refine v_seq ?_ | refine v_reg ?_ | refine v_skip ?_ | refine v_ct rfl ?_ | (refine v_cn rfl (fun hb => ?_) (fun hb => ?_) <;> try (exfalso; omega)))
          | refine s_r ?_
          | refine r_rt ?_)
        · exact q_F fun h5 => absurd ‹g ∈ x.gray.take j› (hnin (h5.mark ‹_›).1)
        · exact q_F fun h5 => absurd (gc ▸ ((h5.mark ‹_›).2.1 g hgm).2.2.1) ‹_›
        · exact q_F fun h5 => absurd (gc ▸ ((h5.mark ‹_›).2.1 g hgm).2.2.2) ‹_›
        · refine r_nx (j + 1) ⟨rfl, ?_, fun g' hg' => ?_⟩
          · rw [htk]
            exact List.nodup_append.2 ⟨hnd, by simp, fun u hu v hv e => by simp at hv; subst hv; subst e; exact ‹¬ _› hu⟩
          · rw [htk] at hg'
            rcases List.mem_append.1 hg' with hg' | hg'
            · exact hv g' hg'
            · simp at hg'; subst hg'
              exact ⟨hin.1, hin.2, by rw [gc]; assumption, by rw [gc]; assumption⟩
      · repeat' (first
          | (refine k_L ?_; first | (refine k_su ?_; refine g_su rfl rfl ?_) | refine a_p rfl ?_ | (refine k_g ?_; first | refine a_gn rfl rfl ?_ | (refine a_gnd rfl (fun hb => ?_) (fun hb => ?_) <;> try (exfalso; omega))) | (refine k_l ?_; refine g_l rfl ?_) | (refine k_i ?_; refine g_i rfl rfl ?_) | (refine k_c ?_; refine a_cq rfl (fun m hm => impl.withinQ) ?_))
          | refine a_n ?_
          | (refine k_V ?_; first | refine v_rv ?_ | refine v_seq ?_ | refine v_reg ?_ | refine v_ct rfl ?_)
          | refine s_r ?_
          | refine r_rt ?_)
        exact q_F fun h5 => hin ⟨((h5.mark ‹_›).2.1 g hgm).1, ((h5.mark ‹_›).2.1 g hgm).2.1⟩
    · obtain ⟨rfl, hnd, hv⟩ := hv
      rw [List.take_length] at hnd hv ⊢
      repeat' (first
        | (refine k_L ?_; first | refine a_p rfl ?_ | (refine k_l ?_; refine g_l rfl ?_))
        | refine a_n ?_
        | (refine k_V ?_; first | refine v_seq ?_ | refine v_reg ?_)
        | refine s_n ?_)
      refine g_range x.xs.length (fun _ : Unit => [(3, .v (.map (some b))), (64, .v (.slice x.cd.a x.xs.length x.cd.cap))]) (fun _ => [mpA b (setM (fun g => g ∈ x.gray)), ro m]) (fun i _ => ∀ (j : Nat) c, j < i → x.H.cells[j]? = some c → c.color = 1 → (j : Int) ∈ x.gray) () (fun j c hj => by omega) (fun i _ hi hw => ?_) (fun _ hw => ?_)
      · obtain ⟨y, gy, gc⟩ := HX.at hi
        repeat' (first
          | (refine k_L ?_; first | refine a_p rfl ?_ | (refine k_g ?_; first | refine a_gy rfl rfl ?_ | refine a_gn rfl rfl ?_ | (refine a_gd rfl (fun hb => ?_) (fun hb => ?_) <;> try (exfalso; omega))) | (refine k_i ?_; refine g_i rfl rfl ?_) | (refine k_ls ?_; refine g_ls rfl ?_) | (refine k_st ?_; refine g_sw rfl rfl rfl rfl (Nat.le_of_ble_eq_true rfl) ?_) | (refine k_al ?_; refine a_al ?_) | (refine a_lk (by (fail_if_success apply pk_bad); (repeat (first | exact pk_h | apply pk_t)); fail_if_success focus skip) rfl rfl (setM_get rfl) ?_))
          | refine a_n ?_
          | (refine k_V ?_; first | refine v_rv ?_ | refine v_seq ?_ | refine v_reg ?_ | refine v_skip ?_ | refine v_cf rfl ?_ | (refine v_cnd rfl (fun hb => ?_) (fun hb => ?_) <;> try (exfalso; omega)))
          | refine s_r ?_
          | refine r_rt ?_
          | refine sk_zero ?_
          | refine sk_succ ?_
          | refine wk_nil ?_
          | refine wk_cons ?_)
        · exact q_F fun h5 => absurd ((h5.mark ‹_›).2.2 i _ gc ‹_›) ‹_›
        all_goals refine r_nx () (fun j c hj hc hk => ?_)
        all_goals (by_cases e : j = i; (subst e; rw [gc] at hc; cases hc; first | assumption | exact absurd hk ‹_›); exact hw j c (by omega) hc hk)
      · repeat' (first
          | refine a_n ?_
          | (refine k_V ?_; refine v_rv ?_)
          | refine s_r ?_)
        refine q_T ⟨fun _ => ⟨hnd, hv, fun i c hc hk => hw i c (by have := (List.getElem?_eq_some_iff.1 hc).1; omega) hc hk⟩, fun hn => absurd hmk hn⟩
  · have hmk := hb
    repeat' (first
      | (refine k_L ?_; first | (refine k_ad ?_; refine g_ad rfl rfl ?_) | (refine k_su ?_; refine g_su rfl rfl ?_) | (refine k_ml ?_; refine g_ml rfl rfl ?_) | refine a_p rfl ?_ | (refine k_g ?_; first | refine a_gy rfl rfl ?_ | refine a_gn rfl rfl ?_ | refine a_gu rfl ?_ | (refine a_gd rfl (fun hb => ?_) (fun hb => ?_) <;> try (exfalso; omega)) | (refine a_ge rfl (fun hb => ?_) (fun hb => ?_) <;> try (exfalso; omega)) | (refine a_gne rfl (fun hb => ?_) (fun hb => ?_) <;> try (exfalso; omega)) | (refine a_gnd rfl (fun hb => ?_) (fun hb => ?_) <;> try (exfalso; omega))) | (refine k_l ?_; refine g_l rfl ?_) | (refine k_i ?_; refine g_i rfl rfl ?_) | (refine k_ls ?_; refine g_ls rfl ?_) | (refine k_st ?_; first | refine g_st rfl rfl rfl rfl ?_ | refine g_sw rfl rfl rfl rfl (Nat.le_of_ble_eq_true rfl) ?_) | (refine k_al ?_; refine a_al ?_) | (refine k_bx ?_; refine a_bx rfl rfl ?_) | (refine k_bl ?_; refine a_bl rfl ?_) | (refine k_p ?_; first | (refine a_pd rfl (fun hb => ?_) (fun hb => ?_) <;> try (exfalso; omega)) | (refine a_pe rfl (fun hb => ?_) (fun hb => ?_) <;> try (exfalso; omega)) | (refine a_pne rfl (fun hb => ?_) (fun hb => ?_) <;> try (exfalso; omega)) | (refine a_pnd rfl (fun hb => ?_) (fun hb => ?_) <;> try (exfalso; omega))))
      | refine a_n ?_
      | (refine k_V ?_; first | refine v_rv ?_ | refine v_seq ?_ | refine v_reg ?_ | refine v_dreg ?_ | refine v_zreg ?_ | refine v_bs ?_ | refine v_br ?_ | refine v_bd ?_ | refine v_bc ?_ | refine v_bk ?_ | refine v_bb ?_ | refine v_ret ?_ | refine v_exit ?_ | refine v_skip ?_ | refine v_ct rfl ?_ | refine v_cf rfl ?_ | (refine v_cd rfl (fun hb => ?_) (fun hb => ?_) <;> try (exfalso; omega)) | (refine v_ce rfl (fun hb => ?_) (fun hb => ?_) <;> try (exfalso; omega)) | (refine v_cn rfl (fun hb => ?_) (fun hb => ?_) <;> try (exfalso; omega)) | (refine v_cnd rfl (fun hb => ?_) (fun hb => ?_) <;> try (exfalso; omega)))
      | refine s_n ?_
      | refine s_r ?_
      | refine s_e ?_
      | refine b_n ?_
      | refine b_r ?_
      | refine b_e ?_
      | refine b_o rfl ?_
      | refine r_rt ?_
      | refine r_bk rfl ?_
      | refine r_ex rfl rfl ?_
      | refine sk_zero ?_
      | refine sk_succ ?_
      | refine wk_nil ?_
      | refine wk_cons ?_)
    refine g_range x.xs.length (fun _ : Unit => [(0, .v (ptr a)), (84, .v (.slice x.cd.a x.xs.length x.cd.cap))]) (fun _ => [ro m]) (fun i _ => ∀ (j : Nat) c, j < i → x.H.cells[j]? = some c → c.color ≠ 1 ∧ (c.color = 2 → x.H.phase = 3 ∧ x.H.hand ≤ j)) () (fun j c hj => by omega) (fun i _ hi hw => ?_) (fun _ hw => ?_)
    · obtain ⟨y, gy, gc⟩ := HX.at hi
      repeat' (first
        | (refine k_L ?_; first | refine a_p rfl ?_ | (refine k_g ?_; first | refine a_gy rfl rfl ?_ | refine a_gn rfl rfl ?_ | refine a_gu rfl ?_ | (refine a_gd rfl (fun hb => ?_) (fun hb => ?_) <;> try (exfalso; omega)) | (refine a_gne rfl (fun hb => ?_) (fun hb => ?_) <;> try (exfalso; omega))) | (refine k_l ?_; refine g_l rfl ?_) | (refine k_i ?_; refine g_i rfl rfl ?_) | (refine k_ls ?_; refine g_ls rfl ?_) | (refine k_st ?_; refine g_sw rfl rfl rfl rfl (Nat.le_of_ble_eq_true rfl) ?_) | (refine k_al ?_; refine a_al ?_))
        | refine a_n ?_
        | (refine k_V ?_; first | refine v_rv ?_ | refine v_seq ?_ | refine v_reg ?_ | refine v_skip ?_ | refine v_ct rfl ?_ | refine v_cf rfl ?_ | (refine v_cd rfl (fun hb => ?_) (fun hb => ?_) <;> try (exfalso; omega)))
        | refine s_r ?_
        | refine r_rt ?_
        | refine sk_zero ?_
        | refine sk_succ ?_
        | refine wk_nil ?_
        | refine wk_cons ?_)
      · exact q_F fun h5 => absurd ‹y.c.color = 1› ((h5.else_ ‹_›).2 i _ gc).1
      · exact q_F fun h5 => absurd (((h5.else_ ‹_›).2 i _ gc).2 ‹_›).1 ‹_›
      · exact q_F fun h5 => absurd (((h5.else_ ‹_›).2 i _ gc).2 ‹_›).2 (by show ¬ x.hdr.hand ≤ _; omega)
      all_goals refine r_nx () (fun j c hj hc => ?_)
      all_goals (by_cases e : j = i; (subst e; rw [gc] at hc; cases hc; first | exact ⟨‹_›, fun _ => ⟨‹_›, by show x.hdr.hand ≤ _; omega⟩⟩ | exact ⟨‹_›, fun hk => absurd hk ‹_›⟩); exact hw j c (by omega) hc)
    · repeat' (first
        | (refine k_L ?_; first | refine a_p rfl ?_ | (refine k_l ?_; refine g_l rfl ?_))
        | refine a_n ?_
        | (refine k_V ?_; first | refine v_seq ?_ | refine v_reg ?_ | refine v_ret ?_))
      refine q_B (fun _ _ => rfl) ?_
      have hng : x.hdr.ng = x.H.gray.length := rfl
      constructor
      · intro he
        have : x.H.gray = [] := List.eq_nil_of_length_eq_zero (by rw [← hng]; simpa using he)
        exact ⟨fun hm => absurd hm hmk, fun _ => ⟨this, fun i c hc => hw i c (by have := (List.getElem?_eq_some_iff.1 hc).1; omega) hc⟩⟩
      · intro h5
        have := (h5.else_ hmk).1
        rw [hng, this]; rfl
end Go.Proofs.Ytcmllambknfleaa.E
