/- Images: first, Decode, Is. -/
import Derived.Test.YtkkkcafkepnecaaGreatIH
import Derived.Test.YtkkkcafkepnecaaGreatJI

set_option linter.unusedVariables false
set_option linter.unusedSimpArgs false
set_option linter.unnecessarySimpa false
namespace Go.Proofs.YtkkkcafkepnecaaGreat.Im
open Go Go.RowKit Vc Oc Dg
attribute [local irreducible] binV Op.unary convert nlW faW ldS ldW ixS ixA ixV ixT exW lnS lnT pu stW alW opW opU bsW mkW

section
variable {B w : World} {H : Hp} {K : Value → World → Prop} {PK : List PanicEntry → World → Prop}
def p0 : Pr := ⟨[], 0, 0, 0⟩
abbrev nilS : Value := .slice none 0 0
theorem cp0 : CpP [] nilS p0.fs := ⟨[], [], rfl, by simp, own_none _ _, rfl⟩
def firstR (l : List Nat) : Pr × Nat × Int := match progR l with
  | .ok q => (q.1, q.2, 0)
  | .error e => (p0, 0, e)
def decR (l : List Nat) : Pr × Int := match progR l with
  | .ok q => if q.2 < l.length then (p0, 200) else (q.1, 0)
  | .error e => (p0, e)
theorem rins_er {l : List Nat} {a : Nat} {e : Int} (h : rins l a = .error e) : e = 110 ∨ e = 200 := by
  unfold rins at h
  rcases insR_cases (l.drop a) with ⟨h0, _⟩ | h0 | h0
  · rw [if_pos h0] at h; cases h
  · rw [h0] at h; simp at h; exact .inl h.symm
  · rw [h0] at h; simp at h; exact .inr h.symm
theorem num_e {l : List Nat} {a wd : Nat} {e : Int} (h : num l a wd = .error e) : e = 110 := by
  unfold num at h
  split at h <;> cases h; rfl
theorem andE_e {α β : Type} {x : Except Int α} {f : α → Except Int β} {e : Int} (h : andE x f = .error e) : x = .error e ∨ ∃ y, x = .ok y ∧ f y = .error e := by
  cases x with
  | ok y => exact .inr ⟨y, rfl, h⟩
  | error e' => cases h; exact .inl rfl
theorem rcode_er {l : List Nat} {k : List Ins → Nat → Out} {e : Int} (hk : ∀ c a, k c a = .error e → e = 110 ∨ e = 200) : ∀ (n a : Nat) (acc : List Ins), rcode l k n a acc = .error e → e = 110 ∨ e = 200
  | 0, a, acc, h => hk _ _ h
  | n + 1, a, acc, h => by
    unfold rcode at h
    rcases andE_e h with h | ⟨y, _, h⟩
    · exact rins_er h
    · exact rcode_er hk _ _ _ h
theorem rfuns_er {l : List Nat} {k : List Fun → Nat → Out} {e : Int} (hk : ∀ c a, k c a = .error e → e = 110 ∨ e = 200) : ∀ (n a : Nat) (acc : List Fun), rfuns l k n a acc = .error e → e = 110 ∨ e = 200
  | 0, a, acc, h => hk _ _ h
  | n + 1, a, acc, h => by
    unfold rfuns at h
    rcases andE_e h with h | ⟨y, _, h⟩
    · exact .inl (num_e h)
    · rcases andE_e h with h | ⟨z, _, h⟩
      · exact .inl (num_e h)
      · exact rcode_er (fun c a' h => rfuns_er hk _ _ _ h) _ _ _ h
theorem fin_er {l : List Nat} {mu rw gr : Nat} {fs : List Fun} {a : Nat} {e : Int} (h : fin l mu rw gr fs a = .error e) : e = 110 ∨ e = 200 := by
  unfold fin at h
  rcases andE_e h with h | ⟨y, _, h⟩
  · exact .inl (num_e h)
  · split at h <;> cases h; exact .inr rfl
theorem rbody_er {l : List Nat} {a : Nat} {e : Int} (h : rbody l a = .error e) : e = 110 ∨ e = 200 := by
  unfold rbody at h
  rcases andE_e h with h | ⟨y, _, h⟩
  · exact .inl (num_e h)
  rcases andE_e h with h | ⟨y, _, h⟩
  · exact .inl (num_e h)
  rcases andE_e h with h | ⟨y, _, h⟩
  · exact .inl (num_e h)
  rcases andE_e h with h | ⟨y, _, h⟩
  · exact .inl (num_e h)
  exact rfuns_er (fun _ _ h => fin_er h) _ _ _ h
theorem rmag_er {l : List Nat} {k : Nat → Out} {e : Int} (hk : ∀ a, k a = .error e → e = 110 ∨ e = 200) : ∀ (cs : List Nat) (a : Nat), rmag l k cs a = .error e → e = 110 ∨ e = 200
  | [], a, h => hk _ h
  | c :: cs, a, h => by
    unfold rmag at h
    rcases andE_e h with h | ⟨y, _, h⟩
    · exact .inl (num_e h)
    · split at h
      · exact rmag_er hk _ _ h
      · cases h; exact .inr rfl
theorem progR_er {l : List Nat} {e : Int} (h : progR l = .error e) : e = 110 ∨ e = 200 := rmag_er (fun _ h => rbody_er h) _ _ h
/-- What is at the end of a program that is read. -/
theorem andE_o {α β : Type} {x : Except Int α} {f : α → Except Int β} {r : β} (h : andE x f = .ok r) : ∃ y, x = .ok y ∧ f y = .ok r := by
  cases x with
  | ok y => exact ⟨y, rfl, h⟩
  | error e' => cases h
def Ends (l : List Nat) (q : Pr × Nat) : Prop := 8 ≤ q.2 ∧ q.2 ≤ l.length ∧ val ((l.drop (q.2 - 8)).take 8) = sum (l.take (q.2 - 8)) ∧ okP' q.1 = true
theorem fin_ok {l : List Nat} {mu rw gr : Nat} {fs : List Fun} {a : Nat} {q : Pr × Nat} (h : fin l mu rw gr fs a = .ok q) : Ends l q := by
  unfold fin at h
  obtain ⟨s, hs, h⟩ := andE_o h
  unfold num at hs
  split at hs
  · rename_i hle
    cases hs
    split at h
    · rename_i hk
      cases h
      refine ⟨by simp, by simpa using hle, ?_, hk.2⟩
      simpa using hk.1
    · cases h
  · cases hs
theorem rcode_ok {l : List Nat} {k : List Ins → Nat → Out} {q : Pr × Nat} {Q : Prop} (hk : ∀ c a, k c a = .ok q → Q) : ∀ (n a : Nat) (acc : List Ins), rcode l k n a acc = .ok q → Q
  | 0, a, acc, h => hk _ _ h
  | n + 1, a, acc, h => by
    unfold rcode at h
    obtain ⟨y, _, h⟩ := andE_o h
    exact rcode_ok hk _ _ _ h
theorem rfuns_ok {l : List Nat} {k : List Fun → Nat → Out} {q : Pr × Nat} {Q : Prop} (hk : ∀ c a, k c a = .ok q → Q) : ∀ (n a : Nat) (acc : List Fun), rfuns l k n a acc = .ok q → Q
  | 0, a, acc, h => hk _ _ h
  | n + 1, a, acc, h => by
    unfold rfuns at h
    obtain ⟨y, _, h⟩ := andE_o h
    obtain ⟨z, _, h⟩ := andE_o h
    exact rcode_ok (fun c a' h => rfuns_ok hk _ _ _ h) _ _ _ h
theorem rmag_ok {l : List Nat} {k : Nat → Out} {q : Pr × Nat} {Q : Prop} (hk : ∀ a, k a = .ok q → Q) : ∀ (cs : List Nat) (a : Nat), rmag l k cs a = .ok q → Q
  | [], a, h => hk _ h
  | c :: cs, a, h => by
    unfold rmag at h
    obtain ⟨y, _, h⟩ := andE_o h
    split at h
    · exact rmag_ok hk _ _ h
    · cases h
theorem progR_ok {l : List Nat} {q : Pr × Nat} (h : progR l = .ok q) : Ends l q := by
  refine rmag_ok (fun a h => ?_) _ _ h
  unfold rbody at h
  obtain ⟨y, _, h⟩ := andE_o h
  obtain ⟨y, _, h⟩ := andE_o h
  obtain ⟨y, _, h⟩ := andE_o h
  obtain ⟨y, _, h⟩ := andE_o h
  exact rfuns_ok (fun _ _ h => fin_ok h) _ _ _ h

abbrev pgO (p : Pr) (v : Value) : Obj := cel (p.cells v) T.t_api_Program
theorem cells_plain (p : Pr) {v : Value} (hv : plainV v = true) : (p.cells v).all plainV = true := by simp only [Pr.cells, List.all_cons, hv]; rfl
theorem cp_sl {F : Hp} {v : Value} {fs : List Fun} (h : CpP F v fs) : ∃ a n c, v = .slice a n c := by
  obtain ⟨Sf, es, _, _, h3, _⟩ := h
  obtain ⟨a, c, rfl⟩ := h3.len
  exact ⟨_, _, _, rfl⟩
theorem first_pan {b2 b4 b6 : Nat} {p : Pr} {v : Value} {m e : Int} {A : Hp} {Y : Ending → World → Prop} (h : Ow B w (A ++ (b6, erO 0) :: (b4, inO m) :: (b2, pgO p v) :: H)) (k : ∀ w', Ow B w' H → K (.tuple #[.agg (p0.cells nilS).toArray, vI 0, vI e]) w') :
    LvW PG (dfr N.image_caught [ptr b6, .func (.func N.image_first_1) #[] #[ptr b2, ptr b4]] :: []) (.panicking (pan e)) w (endV (fun w => ldW (some 4) (ptr b2) w fun t75 => ldW none (ptr b4) w fun t76 => ldW none (ptr b6) w fun t77 => K (.tuple #[t75, t76, t77]) w) Y) := by
  refine image_lv_pan (B := B) (A := A) (C := (b4, inO 0) :: (b2, pgO p0 nilS) :: H) (u := vI 0) (fun K' hK => ?_) (fun w1 h1 => ?_)
  · refine callV_fn image_first_1.okf (image_first_1.ok ?_)
    unfold image_first_1.C
    refine pu_build (p0.cells nilS) (by kernel_rfl) ?_
    have h1 : Ow B w ((A ++ (b6, erO 0) :: [(b4, inO m)]) ++ (b2, pgO p v) :: H) := by simpa using h
    refine st_here h1 (p0.cells nilS) rfl rfl rfl (by simp [Pr.cells]) (fun w2 h2 => ?_)
    have e3 : (p.cells v).take 0 ++ p0.cells nilS ++ (p.cells v).drop (0 + 4) = p0.cells nilS := rfl
    rw [e3] at h2
    have h3 : Ow B w2 ((A ++ [(b6, erO 0)]) ++ (b4, inO m) :: (b2, pgO p0 nilS) :: H) := by simpa using h2
    refine st1_here h3 rfl rfl (by simp) (fun w3 h4 => ?_)
    exact hK _ _ (by simpa using h4)
  · refine ldn_here h1 (List.mem_append_right _ (.tail _ (.tail _ (.head _)))) (vs := p0.cells nilS) rfl rfl ?_
    refine ld_here h1 (List.mem_append_right _ (.tail _ (.head _))) (v := vI 0) rfl ?_
    refine ld_here h1 (List.mem_append_right _ (.head _)) (v := vI e) rfl ?_
    exact k _ (h1.sub ((((List.Sublist.refl H).cons _).cons _).cons _ |>.trans (List.sublist_append_right A _)))
theorem first_spec {X : Hp} {s : Value} {l : List Nat} (hs : Sl X s (bv l)) (hX : ∀ x, x ∈ X → x ∈ H) (hb : Byt l) (hl : l.length ≤ 1000000) (h : Ow B w H)
    (k : ∀ F v w', CpP F v (firstR l).1.fs → (∀ f ∈ (firstR l).1.fs, immOk f.code) → Ow B w' (F ++ H) → K (.tuple #[.agg ((firstR l).1.cells v).toArray, vI (firstR l).2.1, vI (firstR l).2.2]) w') : callW PG N.image_first [s] K PK w := by
  refine image_first.ok ?_
  unfold image_first.C
  obtain ⟨ad, cp, rfl, hcp⟩ := Sl.cap hs
  generalize hsv : Value.slice ad (bv l).length cp = s at *
  refine al_rule h (l := p0.cells nilS) (by kernel_rfl) (fun b2 w1 h1 => ?_)
  refine al_rule h1 (l := [vI 0]) (by kernel_rfl) (fun b4 w2 h2 => ?_)
  refine al_rule h2 (l := [vI 0]) (by kernel_rfl) (fun b6 w3 h3 => ?_)
  refine pu_build [s] (by subst hsv; kernel_rfl) ?_
  refine pu_build [s, vI 0] (by subst hsv; kernel_rfl) ?_
  refine al_rule h3 (l := [s, vI 0]) rfl (fun b12 w4 h4 => ?_)
  refine rprog_spec (A := []) (C := (b6, erO 0) :: (b4, inO 0) :: (b2, pgO p0 nilS) :: H) hs (fun x hx => .tail _ (.tail _ (.tail _ (hX x hx)))) hb hl h4 (fun F v p n w5 hP hF him h5 => ?_) (fun e a w5 hP h5 => ?_)
  · have e : firstR l = (p, n, 0) := by unfold firstR; rw [hP]
    rw [e] at k
    obtain ⟨a1, a2, a3, hv⟩ := cp_sl hF
    have hvp : plainV v = true := by rw [hv]; rfl
    have h5 : Ow B w5 ((F ++ [(b12, rO s n), (b6, erO 0), (b4, inO 0)]) ++ (b2, pgO p0 nilS) :: H) := by simpa using h5
    refine st_here h5 (p.cells v) rfl rfl (cells_plain _ hvp) (by simp [Pr.cells]) (fun w6 h6 => ?_)
    have e3 : (p0.cells nilS).take 0 ++ p.cells v ++ (p0.cells nilS).drop (0 + 4) = p.cells v := rfl
    rw [e3] at h6
    have hsub : ∀ w, Ow B w ((F ++ [(b12, rO s n), (b6, erO 0), (b4, inO 0)]) ++ (b2, pgO p v) :: H) → Ow B w [(b12, rO s n)] := fun w h => h.sub (by
      have : [(b12, rO s n)].Sublist (F ++ ((b12, rO s n) :: ((b6, erO 0) :: (b4, inO 0) :: (b2, pgO p v) :: H))) := (List.Sublist.cons_cons _ (List.nil_sublist _)).trans (List.sublist_append_right _ _)
      simpa using this)
    refine ⟨fun w => Ow B w [(b12, rO s n)], hsub _ h6.drew, ?_⟩
    refine ldn_here h6.drew (List.mem_append_right _ (.head _)) (vs := p.cells v) rfl rfl ?_
    repeat (first | refine pu_not ?_ | refine pu_eql ?_ | refine pu_neq ?_ | refine pu_lss ?_ | refine pu_leq ?_ | refine pu_gtr ?_ | refine pu_geq ?_ | refine pu_add ?_ | refine pu_sub ?_ | refine fa_at ?_ | refine nl_ptr ?_ | refine ex20 ?_ | refine ex21 ?_ | refine ex30 ?_ | refine ex31 ?_ | refine ex32 ?_ | refine ln_rule ?_ | refine pu_seq ?_ | refine pu_sne ?_)
    refine lds_here (fun w h => h) (.head _) (v := vI n) rfl ?_
    refine st_here h6.drew (p.cells v) rfl rfl (cells_plain _ hvp) (by simp [Pr.cells]) (fun w7 h7 => ?_)
    have e4 : (p.cells v).take 0 ++ p.cells v ++ (p.cells v).drop (0 + 4) = p.cells v := rfl
    rw [e4] at h7
    refine ⟨hsub _ h7, ?_⟩
    have h7 : Ow B w7 ((F ++ [(b12, rO s n), (b6, erO 0)]) ++ (b4, inO 0) :: (b2, pgO p v) :: H) := by simpa using h7
    refine st1_here h7 rfl rfl (by simp) (fun w8 h8 => ?_)
    have h8 : Ow B w8 ((F ++ [(b12, rO s n)]) ++ (b6, erO 0) :: (b4, inO n) :: (b2, pgO p v) :: H) := by simpa using h8
    refine st1_here h8 rfl rfl (by simp) (fun w9 h9 => ?_)
    have h9 : Ow B w9 ((F ++ [(b12, rO s n)]) ++ (b6, erO 0) :: (b4, inO n) :: (b2, pgO p v) :: H) := by simpa using h9
    refine image_lv_ret ?_
    refine ldn_here h9 (List.mem_append_right _ (.tail _ (.tail _ (.head _)))) (vs := p.cells v) rfl rfl ?_
    refine ld_here h9 (List.mem_append_right _ (.tail _ (.head _))) (v := vI n) rfl ?_
    refine ld_here h9 (List.mem_append_right _ (.head _)) (v := vI 0) rfl ?_
    refine k F v _ hF him (h9.sub ?_)
    have : (F ++ H).Sublist (F ++ ((b12, rO s n) :: (b6, erO 0) :: (b4, inO n) :: (b2, pgO p v) :: H)) := (List.Sublist.refl F).append ((((List.Sublist.refl H).cons _).cons _).cons _ |>.cons _)
    simpa using this
  · have e' : firstR l = (p0, 0, e) := by unfold firstR; rw [hP]
    rw [e'] at k
    exact first_pan (A := [_]) h5 (fun w6 h6 => k [] nilS w6 cp0 (by simp [p0]) h6)
theorem decode_spec {X : Hp} {s : Value} {l : List Nat} (hs : Sl X s (bv l)) (hX : ∀ x, x ∈ X → x ∈ H) (hb : Byt l) (hl : l.length ≤ 1000000) (h : Ow B w H)
    (k : ∀ F v w', CpP F v (decR l).1.fs → (∀ f ∈ (decR l).1.fs, immOk f.code) → Ow B w' (F ++ H) → K (.tuple #[.agg ((decR l).1.cells v).toArray, vI (decR l).2]) w') : callW PG N.image_Decode [s] K PK w := by
  refine image_Decode.ok ?_
  unfold image_Decode.C
  refine al_rule h (l := p0.cells nilS) (by kernel_rfl) (fun b2 w1 h1 => ?_)
  refine first_spec hs (fun x hx => .tail _ (hX x hx)) hb hl h1 (fun F v w2 hF him h2 => ?_)
  obtain ⟨a1, a2, a3, hv⟩ := cp_sl hF
  have hvp : plainV v = true := by rw [hv]; rfl
  repeat (first | refine pu_not ?_ | refine pu_eql ?_ | refine pu_neq ?_ | refine pu_lss ?_ | refine pu_leq ?_ | refine pu_gtr ?_ | refine pu_geq ?_ | refine pu_add ?_ | refine pu_sub ?_ | refine fa_at ?_ | refine nl_ptr ?_ | refine ex20 ?_ | refine ex21 ?_ | refine ex30 ?_ | refine ex31 ?_ | refine ex32 ?_ | refine ln_rule ?_ | refine pu_seq ?_ | refine pu_sne ?_)
  refine st_here h2 ((firstR l).1.cells v) rfl rfl (cells_plain _ hvp) (by simp [Pr.cells]) (fun w3 h3 => ?_)
  have e3 : (p0.cells nilS).take 0 ++ (firstR l).1.cells v ++ (p0.cells nilS).drop (0 + 4) = (firstR l).1.cells v := rfl
  rw [e3] at h3
  have hdr : decR l = if (firstR l).2.2 = 0 ∧ (firstR l).2.1 < l.length then (p0, 200) else ((firstR l).1, (firstR l).2.2) := by
    unfold decR firstR
    cases hP : progR l with
    | ok q => by_cases hq : q.2 < l.length <;> simp [hq]
    | error e =>
      have : e ≠ 0 := by rcases progR_er hP with rfl | rfl <;> decide
      simp [this]
  generalize firstR l = r at *
  obtain ⟨p, n, e⟩ := r
  simp only at hdr hF him h3 ⊢
  repeat (first | refine pu_not ?_ | refine pu_eql ?_ | refine pu_neq ?_ | refine pu_lss ?_ | refine pu_leq ?_ | refine pu_gtr ?_ | refine pu_geq ?_ | refine pu_add ?_ | refine pu_sub ?_ | refine fa_at ?_ | refine nl_ptr ?_ | refine ex20 ?_ | refine ex21 ?_ | refine ex30 ?_ | refine ex31 ?_ | refine ex32 ?_ | refine ln_rule ?_ | refine pu_seq ?_ | refine pu_sne ?_)
  refine cnd (fun hq => ?_) (fun hq => ?_)
  · have hq : e = 0 := by simpa using hq
    refine sl_ln hs ?_
    repeat (first | refine pu_not ?_ | refine pu_eql ?_ | refine pu_neq ?_ | refine pu_lss ?_ | refine pu_leq ?_ | refine pu_gtr ?_ | refine pu_geq ?_ | refine pu_add ?_ | refine pu_sub ?_ | refine fa_at ?_ | refine nl_ptr ?_ | refine ex20 ?_ | refine ex21 ?_ | refine ex30 ?_ | refine ex31 ?_ | refine ex32 ?_ | refine ln_rule ?_ | refine pu_seq ?_ | refine pu_sne ?_)
    have hbl : (bv l).length = l.length := by simp
    rw [hbl]
    refine cnd (fun hq2 => ?_) (fun hq2 => ?_)
    · have hq2 : n < l.length := by simpa using hq2
      rw [if_pos ⟨hq, hq2⟩] at hdr
      rw [hdr] at k
      simp only at k
      refine pu_build (p0.cells nilS) (by kernel_rfl) ?_
      refine st_here h3 (p0.cells nilS) rfl rfl rfl (by simp [Pr.cells]) (fun w4 h4 => ?_)
      have e4 : (p.cells v).take 0 ++ p0.cells nilS ++ (p.cells v).drop (0 + 4) = p0.cells nilS := rfl
      rw [e4] at h4
      refine ldn_here h4 (List.mem_append_right _ (.head _)) (vs := p0.cells nilS) rfl rfl ?_
      exact k [] nilS _ cp0 (by simp [p0]) (h4.sub (((List.Sublist.refl H).cons _).trans (List.sublist_append_right _ _)))
    · have hq2 : ¬ n < l.length := by simpa using hq2
      rw [if_neg (fun hh => hq2 hh.2)] at hdr
      rw [hdr] at k
      simp only at k
      refine ldn_here h3 (List.mem_append_right _ (.head _)) (vs := p.cells v) rfl rfl ?_
      refine st_here h3 (p.cells v) rfl rfl (cells_plain _ hvp) (by simp [Pr.cells]) (fun w4 h4 => ?_)
      have e4 : (p.cells v).take 0 ++ p.cells v ++ (p.cells v).drop (0 + 4) = p.cells v := rfl
      rw [e4] at h4
      refine ldn_here h4 (List.mem_append_right _ (.head _)) (vs := p.cells v) rfl rfl ?_
      exact k F v _ hF him (h4.sub ((List.Sublist.refl F).append ((List.Sublist.refl H).cons _)))
  · have hq : ¬ e = 0 := by simpa using hq
    rw [if_neg (fun hh => hq hh.1)] at hdr
    rw [hdr] at k
    simp only at k
    refine ldn_here h3 (List.mem_append_right _ (.head _)) (vs := p.cells v) rfl rfl ?_
    refine st_here h3 (p.cells v) rfl rfl (cells_plain _ hvp) (by simp [Pr.cells]) (fun w4 h4 => ?_)
    have e4 : (p.cells v).take 0 ++ p.cells v ++ (p.cells v).drop (0 + 4) = p.cells v := rfl
    rw [e4] at h4
    refine ldn_here h4 (List.mem_append_right _ (.head _)) (vs := p.cells v) rfl rfl ?_
    exact k F v _ hF him (h4.sub ((List.Sublist.refl F).append ((List.Sublist.refl H).cons _)))
theorem is_spec {X : Hp} {s : Value} {l : List Nat} (hs : Sl X s (bv l)) (hX : ∀ x, x ∈ X → x ∈ H) (hb : Byt l) (hl : l.length ≤ 1000000) (h : Ow B w H)
    (k : ∀ w', Ow B w' H → K (vB (decide ((decR l).2 = 0))) w') : callW PG N.image_Is [s] K PK w := by
  refine image_Is.ok ?_
  unfold image_Is.C
  refine decode_spec hs hX hb hl h (fun F v w1 hF him h1 => ?_)
  obtain ⟨a1, a2, a3, hv⟩ := cp_sl hF
  have hvp : plainV v = true := by rw [hv]; rfl
  repeat (first | refine pu_not ?_ | refine pu_eql ?_ | refine pu_neq ?_ | refine pu_lss ?_ | refine pu_leq ?_ | refine pu_gtr ?_ | refine pu_geq ?_ | refine pu_add ?_ | refine pu_sub ?_ | refine fa_at ?_ | refine nl_ptr ?_ | refine ex20 ?_ | refine ex21 ?_ | refine ex30 ?_ | refine ex31 ?_ | refine ex32 ?_ | refine ln_rule ?_ | refine pu_seq ?_ | refine pu_sne ?_)
  refine al_rule h1 (l := p0.cells nilS) (by kernel_rfl) (fun b2 w2 h2 => ?_)
  refine st_here (A := []) h2 ((decR l).1.cells v) rfl rfl (cells_plain _ hvp) (by simp [Pr.cells]) (fun w3 h3 => ?_)
  repeat (first | refine pu_not ?_ | refine pu_eql ?_ | refine pu_neq ?_ | refine pu_lss ?_ | refine pu_leq ?_ | refine pu_gtr ?_ | refine pu_geq ?_ | refine pu_add ?_ | refine pu_sub ?_ | refine fa_at ?_ | refine nl_ptr ?_ | refine ex20 ?_ | refine ex21 ?_ | refine ex30 ?_ | refine ex31 ?_ | refine ex32 ?_ | refine ln_rule ?_ | refine pu_seq ?_ | refine pu_sne ?_)
  rw [ibeq]
  exact k _ (h3.sub (((List.sublist_append_right F H).cons _)))
end
end Go.Proofs.YtkkkcafkepnecaaGreat.Im

/-! Images: a program's bytes; what is right of a program. -/
set_option linter.unusedVariables false
set_option linter.unusedSimpArgs false
set_option linter.unnecessarySimpa false
namespace Go.Proofs.YtkkkcafkepnecaaGreat.Im
open Go Go.RowKit Vc Oc Dg

section
variable {p : Pr} {f : Fun} {i : Ins}
theorem site_fine {n m : Nat} (h : okP' p = true) (hf : p.fs[n]? = some f) (hi : f.code[m]? = some i) : fineI p f m i = true := by
  unfold okP' at h
  rw [Bool.and_eq_true] at h
  have h2 := h.2
  have hn := (List.getElem?_eq_some_iff.1 hf).1
  have hm := (List.getElem?_eq_some_iff.1 hi).1
  have hc : clen p.fs n = f.code.length := by unfold clen; rw [hf]
  have hmem := List.mem_of_getElem? (site_at hn (by rw [hc]; exact hm))
  have h3 : badS p = none := by
    cases hb : badS p
    · rfl
    · rw [hb] at h2; cases h2
  have h4 := List.find?_eq_none.1 h3 _ hmem
  have h5 : fineS p (n, m) = true := by
    cases hs : fineS p (n, m)
    · exact absurd (by rw [hs]; rfl) h4
    · rfl
  unfold fineS at h5
  simp only [hf, hi] at h5
  exact h5
theorem ok_ins (h : okP' p = true) (hf : f ∈ p.fs) (hi : i ∈ f.code) : okI i = true := by
  obtain ⟨n, hn⟩ := List.getElem?_of_mem hf
  obtain ⟨m, hm⟩ := List.getElem?_of_mem hi
  have := site_fine h hn hm
  unfold fineI fineL at this
  simp only [List.all_cons, List.all_nil, Bool.and_true, Bool.and_eq_true, id] at this
  unfold fitsI at this
  simp only [Bool.and_eq_true] at this
  exact this.1.1
structure Fits (p : Pr) : Prop where
  n : 1 ≤ p.fs.length ∧ p.fs.length ≤ 32
  mu : 0 ≤ p.mu ∧ p.mu ≤ 64
  rw : 0 ≤ p.rw ∧ p.rw ≤ 64
  gr : 0 ≤ p.gr ∧ p.gr ≤ 64
  f : ∀ f ∈ p.fs, (1 ≤ f.regs ∧ f.regs ≤ 16) ∧ 1 ≤ f.code.length ∧ f.code.length ≤ 512
theorem ok_fits (h : okP' p = true) : Fits p := by
  unfold okP' at h
  rw [Bool.and_eq_true] at h
  have h1 := h.1
  unfold numI at h1
  rw [List.all_eq_true] at h1
  have g : ∀ a b c : Int, (a, b, c) ∈ numL p → b ≤ a ∧ a ≤ c := fun a b c hm => by
    have := h1 _ hm
    simp only [inB, Bool.and_eq_true, decide_eq_true_eq] at this
    exact this
  have n := g p.fs.length 1 32 (by simp [numL])
  refine ⟨by omega, g p.mu 0 64 (by simp [numL]), g p.rw 0 64 (by simp [numL]), g p.gr 0 64 (by simp [numL]), fun f hf => ?_⟩
  have m1 : ((f.regs, 1, 16) : Int × Int × Int) ∈ numL p := List.mem_append_right _ (List.mem_flatMap.2 ⟨f, hf, by simp [fnum]⟩)
  have m2 : (((f.code.length : Int), 1, 512) : Int × Int × Int) ∈ numL p := List.mem_append_right _ (List.mem_flatMap.2 ⟨f, hf, by simp [fnum]⟩)
  have r1 := g _ _ _ m1
  have r2 := g _ _ _ m2
  exact ⟨r1, by omega⟩
/-- A function's bytes. -/
def codeB (l : List Ins) : List Nat := l.flatMap insB
def funB (f : Fun) : List Nat := f.regs.toNat :: (fx f.code.length 2 ++ codeB f.code)
def headB (p : Pr) : List Nat := magic ++ [p.mu.toNat, p.rw.toNat, p.gr.toNat, p.fs.length]
def bareB (p : Pr) : List Nat := headB p ++ p.fs.flatMap funB
def encB (p : Pr) : List Nat := bareB p ++ fx (sum (bareB p)) 8
theorem codeB_len : ∀ l : List Ins, (codeB l).length ≤ 17 * l.length
  | [] => by simp [codeB]
  | i :: l => by
    have := codeB_len l
    have := insB_len i
    simp only [codeB, List.flatMap_cons, List.length_append, List.length_cons] at *
    omega
theorem funB_len (f : Fun) : (funB f).length ≤ 3 + 17 * f.code.length := by
  have := codeB_len f.code
  simp only [funB, List.length_cons, List.length_append, fx_len]
  omega
theorem funs_len : ∀ l : List Fun, (∀ f ∈ l, f.code.length ≤ 512) → (l.flatMap funB).length ≤ 9000 * l.length
  | [], _ => by simp
  | f :: l, h => by
    have := funs_len l fun g hg => h g (.tail _ hg)
    have := funB_len f
    have := h f (.head _)
    simp only [List.flatMap_cons, List.length_append, List.length_cons]
    omega
theorem bare_len (h : okP' p = true) : (bareB p).length ≤ 300000 := by
  have hf := ok_fits h
  have := funs_len p.fs fun f hm => (hf.f f hm).2.2
  have := hf.n
  simp only [bareB, headB, magic, List.length_append, List.length_cons, List.length_nil]
  omega
theorem code_byt {l : List Ins} (h : ∀ i ∈ l, okI i = true) : Byt (codeB l) := fun x hx => by
  obtain ⟨i, hi, hx⟩ := List.mem_flatMap.1 hx
  exact insB_byt (h i hi) x hx
theorem funB_byt (hr : 0 ≤ f.regs ∧ f.regs < 256) (h : ∀ i ∈ f.code, okI i = true) : Byt (funB f) := fun x hx => by
  rcases List.mem_cons.1 hx with rfl | hx
  · omega
  · exact byt_app (fx_byt _ _) (code_byt h) x hx
theorem head_byt (h : okP' p = true) : Byt (headB p) := by
  have hf := ok_fits h
  have h1 := hf.n; have h2 := hf.mu; have h3 := hf.rw; have h4 := hf.gr
  refine byt_app (show ∀ x ∈ magic, x < 256 by decide) ?_
  intro x hx
  simp only [List.mem_cons, List.not_mem_nil, or_false] at hx
  rcases hx with rfl | rfl | rfl | rfl <;> omega
theorem funs_byt (h : okP' p = true) : Byt (p.fs.flatMap funB) := fun x hx => by
  obtain ⟨f, hf, hx⟩ := List.mem_flatMap.1 hx
  have hr := ((ok_fits h).f f hf).1
  exact funB_byt (by omega) (fun i hi => ok_ins h hf hi) x hx
theorem bare_byt (h : okP' p = true) : Byt (bareB p) := byt_app (head_byt h) (funs_byt h)
theorem enc_byt (h : okP' p = true) : Byt (encB p) := byt_app (bare_byt h) (fx_byt _ _)
theorem enc_len (h : okP' p = true) : (encB p).length ≤ 300008 := by
  have := bare_len h
  simp only [encB, List.length_append, fx_len]; omega
theorem fx_one {n : Nat} (h : n < 256) : fx n 1 = [n] := by
  rw [fx_cons]; simp [fx, Nat.mod_eq_of_lt h]
end
end Go.Proofs.YtkkkcafkepnecaaGreat.Im

/-! Images: written. -/
set_option linter.unusedVariables false
set_option linter.unusedSimpArgs false
set_option linter.unnecessarySimpa false
namespace Go.Proofs.YtkkkcafkepnecaaGreat.Im
open Go Go.RowKit Vc Oc Dg
attribute [local irreducible] binV Op.unary convert nlW faW ldS ldW ixS ixA ixV ixT exW lnS lnT pu stW alW opW opU bsW mkW

section
variable {B w : World} {H : Hp} {K : Value → World → Prop} {PK : List PanicEntry → World → Prop}
/-- A writer's row. -/
abbrev wO (v : Value) : Obj := cel [v] T.t_image_writer
/-- What is written: the row of the bytes is owned. -/
def Wn (S : Hp) (v : Value) (xs : List Nat) : Prop := Vc.Own S T.t_uint8 1 v xs.length (bv xs)
theorem Wn.sv {S : Hp} {v : Value} {xs : List Nat} (h : Wn S v xs) : v.cells = #[v] ∧ plainV v = true := by
  obtain ⟨a, c, rfl⟩ := Vc.Own.len h
  exact ⟨rfl, rfl⟩
theorem wnum_spec {A S C : Hp} {b : Nat} {v : Value} {xs : List Nat} {n wd : Nat} (h : Ow B w (A ++ S ++ (b, wO v) :: C)) (ho : Wn S v xs) (hn : n < 256 ^ wd) (hn64 : n < 18446744073709551616) (hw : right wd = true) (hx : xs.length ≤ 1000000)
    (k : ∀ S' v' w', Ow B w' (A ++ S' ++ (b, wO v') :: C) → Wn S' v' (xs ++ fx n wd) → K (.tuple #[]) w') : callW PG N.image_writer_number [ptr b, v64 n, vI wd] K PK w := by
  refine image_writer_number.ok ?_
  unfold image_writer_number.C
  have hw8 : wd ≤ 8 := by rcases right_cases hw with h | h | h | h <;> omega
  have e : fxR n wd = (fx n wd, 0) := by
    unfold fxR
    rw [if_neg (by rw [hw]; simp), Int.toNat_natCast, if_pos hn]
  refine fixed_spec h hn64 (fun Sf vf w1 h1 hof => ?_)
  rw [e] at hof ⊢
  simp only [fx_len] at hof
  repeat (first | refine pu_not ?_ | refine pu_eql ?_ | refine pu_neq ?_ | refine pu_lss ?_ | refine pu_leq ?_ | refine pu_gtr ?_ | refine pu_geq ?_ | refine pu_add ?_ | refine pu_sub ?_ | refine fa_at ?_ | refine nl_ptr ?_ | refine ex20 ?_ | refine ex21 ?_ | refine ex30 ?_ | refine ex31 ?_ | refine ex32 ?_ | refine ln_rule ?_ | refine pu_seq ?_ | refine pu_sne ?_)
  refine ld_here h1 (List.mem_append_right _ (List.mem_append_right _ (.head _))) (v := v) rfl ?_
  have h1 : Ow B w1 ((Sf ++ A) ++ S ++ (b, wO v) :: C) := by simpa using h1
  have hfl : (bv (fx n wd)).length = wd := by rw [List.length_map, fx_len]
  have hof2 : Sl Sf vf (bv (fx n wd)) := hof.sl
  refine app1 h1 ho hof2 (fun y hy => List.mem_append_left _ (List.mem_append_left _ (List.mem_append_left _ hy))) (by simp [plainV]) und_slb info_u8 rfl (by rw [hfl]; simp only [maxLen]; omega) (by rw [hfl]; omega) (fun S' v' w2 h2 ho' => ?_)
  rw [bv_app, hfl] at ho'
  have ho'' : Wn S' v' (xs ++ fx n wd) := by
    unfold Wn
    rw [List.length_append, fx_len]; exact ho'
  repeat (first | refine pu_not ?_ | refine pu_eql ?_ | refine pu_neq ?_ | refine pu_lss ?_ | refine pu_leq ?_ | refine pu_gtr ?_ | refine pu_geq ?_ | refine pu_add ?_ | refine pu_sub ?_ | refine fa_at ?_ | refine nl_ptr ?_ | refine ex20 ?_ | refine ex21 ?_ | refine ex30 ?_ | refine ex31 ?_ | refine ex32 ?_ | refine ln_rule ?_ | refine pu_seq ?_ | refine pu_sne ?_)
  refine st1_here h2 ho''.sv.1 ho''.sv.2 (by simp) (fun w3 h3 => ?_)
  refine k S' v' _ (h3.sub ?_) ho''
  have : (A ++ S' ++ (b, wO v') :: C).Sublist (Sf ++ (A ++ S' ++ (b, wO v') :: C)) := List.sublist_append_right _ _
  simpa using this
theorem wbyte_spec {A S C : Hp} {b : Nat} {v : Value} {xs : List Nat} {n : Int} (h : Ow B w (A ++ S ++ (b, wO v) :: C)) (ho : Wn S v xs) (h0 : 0 ≤ n) (hn : n < 256) (hx : xs.length ≤ 1000000)
    (k : ∀ S' v' w', Ow B w' (A ++ S' ++ (b, wO v') :: C) → Wn S' v' (xs ++ [n.toNat]) → K (.tuple #[]) w') : callW PG N.image_writer_byte [ptr b, vI n] K PK w := by
  refine image_writer_byte.ok ?_
  unfold image_writer_byte.C
  refine cvt_iu h0 (by omega) ?_
  refine wnum_spec (wd := 1) h ho (by omega) (by omega) rfl hx (fun S' v' w1 h1 ho1 => ?_)
  rw [fx_one (by omega)] at ho1
  exact k S' v' w1 h1 ho1
theorem weach_spec {A S C : Hp} {b : Nat} {v g : Value} {xs : List Nat} {ns : List Int} (hg : Sl A g (ns.map vI)) (h : Ow B w (A ++ S ++ (b, wO v) :: C)) (ho : Wn S v xs) (hns : ∀ n ∈ ns, 0 ≤ n ∧ n < 256) (hx : xs.length + ns.length ≤ 1000000)
    (k : ∀ S' v' w', Ow B w' (A ++ S' ++ (b, wO v') :: C) → Wn S' v' (xs ++ ns.map Int.toNat) → K (.tuple #[]) w') : callW PG N.image_each_int [.func (.func N.image_writer_byte) #[ptr b] #[], g] K PK w := by
  refine image_each_int.ok ?_
  unfold image_each_int.C
  refine sl_ln hg ?_
  rw [List.length_map]
  refine ⟨fun l w => ∃ (n : Nat) (S : Hp) (v : Value), l = [vI n] ∧ n ≤ ns.length ∧ Wn S v (xs ++ (ns.take n).map Int.toNat) ∧ Ow B w (A ++ S ++ (b, wO v) :: C), fun l _ => match l with | [.int _ q] => ns.length - q.toNat | _ => 0,
    ⟨0, S, v, rfl, Nat.zero_le _, by simpa using ho, h⟩, ?_⟩
  clear h ho
  rintro l w1 ⟨n, S, v, rfl, hn, ho, h⟩ j
  simp only [gv, List.getD_cons_zero, List.getD_cons_succ]
  repeat (first | refine pu_not ?_ | refine pu_eql ?_ | refine pu_neq ?_ | refine pu_lss ?_ | refine pu_leq ?_ | refine pu_gtr ?_ | refine pu_geq ?_ | refine pu_add ?_ | refine pu_sub ?_ | refine fa_at ?_ | refine nl_ptr ?_ | refine ex20 ?_ | refine ex21 ?_ | refine ex30 ?_ | refine ex31 ?_ | refine ex32 ?_ | refine ln_rule ?_ | refine pu_seq ?_ | refine pu_sne ?_)
  refine cnd (fun hlt => ?_) (fun hlt => ?_)
  · have hlt : n < ns.length := by simpa using hlt
    have hat : (ns.map vI)[(n : Int).toNat]? = some (vI ns[n]) := by rw [Int.toNat_natCast, List.getElem?_map, List.getElem?_eq_getElem hlt]; rfl
    have htk : ns.take (n + 1) = ns.take n ++ [ns[n]] := by rw [List.take_add_one, List.getElem?_eq_getElem hlt]; rfl
    have hm := hns _ (List.getElem_mem hlt)
    generalize ns[n] = m at hat htk hm
    refine sl_ld h (hg.mono fun x hx => List.mem_append_left _ (List.mem_append_left _ hx)) (by omega) hat ?_
    refine callV_fn image_writer_byte.okf ?_
    refine wbyte_spec h ho hm.1 hm.2 (by rw [List.length_append, List.length_map, List.length_take]; omega) (fun S' v' w2 h2 ho2 => ?_)
    repeat (first | refine pu_not ?_ | refine pu_eql ?_ | refine pu_neq ?_ | refine pu_lss ?_ | refine pu_leq ?_ | refine pu_gtr ?_ | refine pu_geq ?_ | refine pu_add ?_ | refine pu_sub ?_ | refine fa_at ?_ | refine nl_ptr ?_ | refine ex20 ?_ | refine ex21 ?_ | refine ex30 ?_ | refine ex31 ?_ | refine ex32 ?_ | refine ln_rule ?_ | refine pu_seq ?_ | refine pu_sne ?_)
    rw [wrapN (by have := hx; omega)]
    refine ⟨⟨n + 1, S', v', rfl, hlt, ?_, h2⟩, by simp; omega⟩
    rw [htk, List.map_append]
    simpa using ho2
  · obtain rfl : n = ns.length := by simp at hlt; omega
    rw [List.take_length] at ho
    exact k S v _ h ho
end
end Go.Proofs.YtkkkcafkepnecaaGreat.Im

