/- Images: first, Decode, Is. -/
import Derived.Test.YtkkkcafkepnecaaGreatIH
import Derived.Test.YtkkkcafkepnecaaGreatJI

set_option linter.unusedVariables false
set_option linter.unusedSimpArgs false
set_option linter.unnecessarySimpa false
namespace Go.Proofs.YtkkkcafkepnecaaGreat.Im
open Go Go.RowKit Vc Oc Dg
attribute [local irreducible] binV Op.unary convert nlW faW ldS ldW ixS ixA ixV ixT exW lnS lnT pu stW alW opW opU bsW mkW

section
variable {B w : World} {H : Hp} {K : Value → World → Prop} {PK : List PanicEntry → World → Prop}
def p0 : Pr := ⟨[], 0, 0, 0⟩
abbrev nilS : Value := .slice none 0 0
theorem cp0 : CpP [] nilS p0.fs := ⟨[], [], rfl, by simp, own_none _ _, rfl⟩
def firstR (l : List Nat) : Pr × Nat × Int := match progR l with
  | .ok q => (q.1, q.2, 0)
  | .error e => (p0, 0, e)
def decR (l : List Nat) : Pr × Int := match progR l with
  | .ok q => if q.2 < l.length then (p0, 200) else (q.1, 0)
  | .error e => (p0, e)
theorem rins_er {l : List Nat} {a : Nat} {e : Int} (h : rins l a = .error e) : e = 110 ∨ e = 200 := by
  unfold rins at h
  rcases insR_cases (l.drop a) with ⟨h0, _⟩ | h0 | h0
  · rw [if_pos h0] at h; cases h
  · rw [h0] at h; simp at h; exact .inl h.symm
  · rw [h0] at h; simp at h; exact .inr h.symm
theorem num_e {l : List Nat} {a wd : Nat} {e : Int} (h : num l a wd = .error e) : e = 110 := by
  unfold num at h
  split at h <;> cases h; rfl
theorem andE_e {α β : Type} {x : Except Int α} {f : α → Except Int β} {e : Int} (h : andE x f = .error e) : x = .error e ∨ ∃ y, x = .ok y ∧ f y = .error e := by
  cases x with
  | ok y => exact .inr ⟨y, rfl, h⟩
  | error e' => cases h; exact .inl rfl
theorem rcode_er {l : List Nat} {k : List Ins → Nat → Out} {e : Int} (hk : ∀ c a, k c a = .error e → e = 110 ∨ e = 200) : ∀ (n a : Nat) (acc : List Ins), rcode l k n a acc = .error e → e = 110 ∨ e = 200
  | 0, a, acc, h => hk _ _ h
  | n + 1, a, acc, h => by
    unfold rcode at h
    rcases andE_e h with h | ⟨y, _, h⟩
    · exact rins_er h
    · exact rcode_er hk _ _ _ h
theorem rfuns_er {l : List Nat} {k : List Fun → Nat → Out} {e : Int} (hk : ∀ c a, k c a = .error e → e = 110 ∨ e = 200) : ∀ (n a : Nat) (acc : List Fun), rfuns l k n a acc = .error e → e = 110 ∨ e = 200
  | 0, a, acc, h => hk _ _ h
  | n + 1, a, acc, h => by
    unfold rfuns at h
    rcases andE_e h with h | ⟨y, _, h⟩
    · exact .inl (num_e h)
    · rcases andE_e h with h | ⟨z, _, h⟩
      · exact .inl (num_e h)
      · exact rcode_er (fun c a' h => rfuns_er hk _ _ _ h) _ _ _ h
theorem fin_er {l : List Nat} {mu rw gr : Nat} {fs : List Fun} {a : Nat} {e : Int} (h : fin l mu rw gr fs a = .error e) : e = 110 ∨ e = 200 := by
  unfold fin at h
  rcases andE_e h with h | ⟨y, _, h⟩
  · exact .inl (num_e h)
  · split at h <;> cases h; exact .inr rfl
theorem rbody_er {l : List Nat} {a : Nat} {e : Int} (h : rbody l a = .error e) : e = 110 ∨ e = 200 := by
  unfold rbody at h
  rcases andE_e h with h | ⟨y, _, h⟩
  · exact .inl (num_e h)
  rcases andE_e h with h | ⟨y, _, h⟩
  · exact .inl (num_e h)
  rcases andE_e h with h | ⟨y, _, h⟩
  · exact .inl (num_e h)
  rcases andE_e h with h | ⟨y, _, h⟩
  · exact .inl (num_e h)
  exact rfuns_er (fun _ _ h => fin_er h) _ _ _ h
theorem rmag_er {l : List Nat} {k : Nat → Out} {e : Int} (hk : ∀ a, k a = .error e → e = 110 ∨ e = 200) : ∀ (cs : List Nat) (a : Nat), rmag l k cs a = .error e → e = 110 ∨ e = 200
  | [], a, h => hk _ h
  | c :: cs, a, h => by
    unfold rmag at h
    rcases andE_e h with h | ⟨y, _, h⟩
    · exact .inl (num_e h)
    · split at h
      · exact rmag_er hk _ _ h
      · cases h; exact .inr rfl
theorem progR_er {l : List Nat} {e : Int} (h : progR l = .error e) : e = 110 ∨ e = 200 := rmag_er (fun _ h => rbody_er h) _ _ h
/-- What is at the end of a program that is read. -/
theorem andE_o {α β : Type} {x : Except Int α} {f : α → Except Int β} {r : β} (h : andE x f = .ok r) : ∃ y, x = .ok y ∧ f y = .ok r := by
  cases x with
  | ok y => exact ⟨y, rfl, h⟩
  | error e' => cases h
def Ends (l : List Nat) (q : Pr × Nat) : Prop := 8 ≤ q.2 ∧ q.2 ≤ l.length ∧ val ((l.drop (q.2 - 8)).take 8) = sum (l.take (q.2 - 8)) ∧ okP' q.1 = true
theorem fin_ok {l : List Nat} {mu rw gr : Nat} {fs : List Fun} {a : Nat} {q : Pr × Nat} (h : fin l mu rw gr fs a = .ok q) : Ends l q := by
  unfold fin at h
  obtain ⟨s, hs, h⟩ := andE_o h
  unfold num at hs
  split at hs
  · rename_i hle
    cases hs
    split at h
    · rename_i hk
      cases h
      refine ⟨by simp, by simpa using hle, ?_, hk.2⟩
      simpa using hk.1
    · cases h
  · cases hs
theorem rcode_ok {l : List Nat} {k : List Ins → Nat → Out} {q : Pr × Nat} {Q : Prop} (hk : ∀ c a, k c a = .ok q → Q) : ∀ (n a : Nat) (acc : List Ins), rcode l k n a acc = .ok q → Q
  | 0, a, acc, h => hk _ _ h
  | n + 1, a, acc, h => by
    unfold rcode at h
    obtain ⟨y, _, h⟩ := andE_o h
    exact rcode_ok hk _ _ _ h
theorem rfuns_ok {l : List Nat} {k : List Fun → Nat → Out} {q : Pr × Nat} {Q : Prop} (hk : ∀ c a, k c a = .ok q → Q) : ∀ (n a : Nat) (acc : List Fun), rfuns l k n a acc = .ok q → Q
  | 0, a, acc, h => hk _ _ h
  | n + 1, a, acc, h => by
    unfold rfuns at h
    obtain ⟨y, _, h⟩ := andE_o h
    obtain ⟨z, _, h⟩ := andE_o h
    exact rcode_ok (fun c a' h => rfuns_ok hk _ _ _ h) _ _ _ h
theorem rmag_ok {l : List Nat} {k : Nat → Out} {q : Pr × Nat} {Q : Prop} (hk : ∀ a, k a = .ok q → Q) : ∀ (cs : List Nat) (a : Nat), rmag l k cs a = .ok q → Q
  | [], a, h => hk _ h
  | c :: cs, a, h => by
    unfold rmag at h
    obtain ⟨y, _, h⟩ := andE_o h
    split at h
    · exact rmag_ok hk _ _ h
    · cases h
theorem progR_ok {l : List Nat} {q : Pr × Nat} (h : progR l = .ok q) : Ends l q := by
  refine rmag_ok (fun a h => ?_) _ _ h
  unfold rbody at h
  obtain ⟨y, _, h⟩ := andE_o h
  obtain ⟨y, _, h⟩ := andE_o h
  obtain ⟨y, _, h⟩ := andE_o h
  obtain ⟨y, _, h⟩ := andE_o h
  exact rfuns_ok (fun _ _ h => fin_ok h) _ _ _ h

abbrev pgO (p : Pr) (v : Value) : Obj := cel (p.cells v) T.t_api_Program
theorem cells_plain (p : Pr) {v : Value} (hv : plainV v = true) : (p.cells v).all plainV = true := by simp only [Pr.cells, List.all_cons, hv]; rfl
theorem cp_sl {F : Hp} {v : Value} {fs : List Fun} (h : CpP F v fs) : ∃ a n c, v = .slice a n c := by
  obtain ⟨Sf, es, _, _, h3, _⟩ := h
  obtain ⟨a, c, rfl⟩ := h3.len
  exact ⟨_, _, _, rfl⟩
theorem first_pan {b2 b4 b6 : Nat} {p : Pr} {v : Value} {m e : Int} {A : Hp} {Y : Ending → World → Prop} (h : Ow B w (A ++ (b6, erO 0) :: (b4, inO m) :: (b2, pgO p v) :: H)) (k : ∀ w', Ow B w' H → K (.tuple #[.agg (p0.cells nilS).toArray, vI 0, vI e]) w') :
    LvW PG (dfr N.image_caught [ptr b6, .func (.func N.image_first_1) #[] #[ptr b2, ptr b4]] :: []) (.panicking (pan e)) w (endV (fun w => ldW (some 4) (ptr b2) w fun t75 => ldW none (ptr b4) w fun t76 => ldW none (ptr b6) w fun t77 => K (.tuple #[t75, t76, t77]) w) Y) := by
  refine image_lv_pan (B := B) (A := A) (C := (b4, inO 0) :: (b2, pgO p0 nilS) :: H) (u := vI 0) (fun K' hK => ?_) (fun w1 h1 => ?_)
  · refine callV_fn image_first_1.okf (image_first_1.ok ?_)
    unfold image_first_1.C
    refine pu_build (p0.cells nilS) (by kernel_rfl) ?_
    have h1 : Ow B w ((A ++ (b6, erO 0) :: [(b4, inO m)]) ++ (b2, pgO p v) :: H) := by simpa using h
    refine st_here h1 (p0.cells nilS) rfl rfl rfl (by simp [Pr.cells]) (fun w2 h2 => ?_)
    have e3 : (p.cells v).take 0 ++ p0.cells nilS ++ (p.cells v).drop (0 + 4) = p0.cells nilS := rfl
    rw [e3] at h2
    have h3 : Ow B w2 ((A ++ [(b6, erO 0)]) ++ (b4, inO m) :: (b2, pgO p0 nilS) :: H) := by simpa using h2
    refine st1_here h3 rfl rfl (by simp) (fun w3 h4 => ?_)
    exact hK _ _ (by simpa using h4)
  · refine ldn_here h1 (List.mem_append_right _ (.tail _ (.tail _ (.head _)))) (vs := p0.cells nilS) rfl rfl ?_
    refine ld_here h1 (List.mem_append_right _ (.tail _ (.head _))) (v := vI 0) rfl ?_
    refine ld_here h1 (List.mem_append_right _ (.head _)) (v := vI e) rfl ?_
    exact k _ (h1.sub ((((List.Sublist.refl H).cons _).cons _).cons _ |>.trans (List.sublist_append_right A _)))
theorem first_spec {X : Hp} {s : Value} {l : List Nat} (hs : Sl X s (bv l)) (hX : ∀ x, x ∈ X → x ∈ H) (hb : Byt l) (hl : l.length ≤ 1000000) (h : Ow B w H)
    (k : ∀ F v w', CpP F v (firstR l).1.fs → (∀ f ∈ (firstR l).1.fs, immOk f.code) → Ow B w' (F ++ H) → K (.tuple #[.agg ((firstR l).1.cells v).toArray, vI (firstR l).2.1, vI (firstR l).2.2]) w') : callW PG N.image_first [s] K PK w := by
  refine image_first.ok ?_
  unfold image_first.C
  obtain ⟨ad, cp, rfl, hcp⟩ := Sl.cap hs
  generalize hsv : Value.slice ad (bv l).length cp = s at *
  refine al_rule h (l := p0.cells nilS) (by kernel_rfl) (fun b2 w1 h1 => ?_)
  refine al_rule h1 (l := [vI 0]) (by kernel_rfl) (fun b4 w2 h2 => ?_)
  refine al_rule h2 (l := [vI 0]) (by kernel_rfl) (fun b6 w3 h3 => ?_)
  refine pu_build [s] (by subst hsv; kernel_rfl) ?_
  refine pu_build [s, vI 0] (by subst hsv; kernel_rfl) ?_
  refine al_rule h3 (l := [s, vI 0]) rfl (fun b12 w4 h4 => ?_)
  refine rprog_spec (A := []) (C := (b6, erO 0) :: (b4, inO 0) :: (b2, pgO p0 nilS) :: H) hs (fun x hx => .tail _ (.tail _ (.tail _ (hX x hx)))) hb hl h4 (fun F v p n w5 hP hF him h5 => ?_) (fun e a w5 hP h5 => ?_)
  · have e : firstR l = (p, n, 0) := by unfold firstR; rw [hP]
    rw [e] at k
    obtain ⟨a1, a2, a3, hv⟩ := cp_sl hF
    have hvp : plainV v = true := by rw [hv]; rfl
    have h5 : Ow B w5 ((F ++ [(b12, rO s n), (b6, erO 0), (b4, inO 0)]) ++ (b2, pgO p0 nilS) :: H) := by simpa using h5
    refine st_here h5 (p.cells v) rfl rfl (cells_plain _ hvp) (by simp [Pr.cells]) (fun w6 h6 => ?_)
    have e3 : (p0.cells nilS).take 0 ++ p.cells v ++ (p0.cells nilS).drop (0 + 4) = p.cells v := rfl
    rw [e3] at h6
    have hsub : ∀ w, Ow B w ((F ++ [(b12, rO s n), (b6, erO 0), (b4, inO 0)]) ++ (b2, pgO p v) :: H) → Ow B w [(b12, rO s n)] := fun w h => h.sub (by
      have : [(b12, rO s n)].Sublist (F ++ ((b12, rO s n) :: ((b6, erO 0) :: (b4, inO 0) :: (b2, pgO p v) :: H))) := (List.Sublist.cons_cons _ (List.nil_sublist _)).trans (List.sublist_append_right _ _)
      simpa using this)
    refine ⟨fun w => Ow B w [(b12, rO s n)], hsub _ h6.drew, ?_⟩
    refine ldn_here h6.drew (List.mem_append_right _ (.head _)) (vs := p.cells v) rfl rfl ?_
    repeat (first | refine pu_not ?_ | refine pu_eql ?_ | refine pu_neq ?_ | refine pu_lss ?_ | refine pu_leq ?_ | refine pu_gtr ?_ | refine pu_geq ?_ | refine pu_add ?_ | refine pu_sub ?_ | refine fa_at ?_ | refine nl_ptr ?_ | refine ex20 ?_ | refine ex21 ?_ | refine ex30 ?_ | refine ex31 ?_ | refine ex32 ?_ | refine ln_rule ?_ | refine pu_seq ?_ | refine pu_sne ?_)
    refine lds_here (fun w h => h) (.head _) (v := vI n) rfl ?_
    refine st_here h6.drew (p.cells v) rfl rfl (cells_plain _ hvp) (by simp [Pr.cells]) (fun w7 h7 => ?_)
    have e4 : (p.cells v).take 0 ++ p.cells v ++ (p.cells v).drop (0 + 4) = p.cells v := rfl
    rw [e4] at h7
    refine ⟨hsub _ h7, ?_⟩
    have h7 : Ow B w7 ((F ++ [(b12, rO s n), (b6, erO 0)]) ++ (b4, inO 0) :: (b2, pgO p v) :: H) := by simpa using h7
    refine st1_here h7 rfl rfl (by simp) (fun w8 h8 => ?_)
    have h8 : Ow B w8 ((F ++ [(b12, rO s n)]) ++ (b6, erO 0) :: (b4, inO n) :: (b2, pgO p v) :: H) := by simpa using h8
    refine st1_here h8 rfl rfl (by simp) (fun w9 h9 => ?_)
    have h9 : Ow B w9 ((F ++ [(b12, rO s n)]) ++ (b6, erO 0) :: (b4, inO n) :: (b2, pgO p v) :: H) := by simpa using h9
    refine image_lv_ret ?_
    refine ldn_here h9 (List.mem_append_right _ (.tail _ (.tail _ (.head _)))) (vs := p.cells v) rfl rfl ?_
    refine ld_here h9 (List.mem_append_right _ (.tail _ (.head _))) (v := vI n) rfl ?_
    refine ld_here h9 (List.mem_append_right _ (.head _)) (v := vI 0) rfl ?_
    refine k F v _ hF him (h9.sub ?_)
    have : (F ++ H).Sublist (F ++ ((b12, rO s n) :: (b6, erO 0) :: (b4, inO n) :: (b2, pgO p v) :: H)) := (List.Sublist.refl F).append ((((List.Sublist.refl H).cons _).cons _).cons _ |>.cons _)
    simpa using this
  · have e' : firstR l = (p0, 0, e) := by unfold firstR; rw [hP]
    rw [e'] at k
    exact first_pan (A := [_]) h5 (fun w6 h6 => k [] nilS w6 cp0 (by simp [p0]) h6)
theorem decode_spec {X : Hp} {s : Value} {l : List Nat} (hs : Sl X s (bv l)) (hX : ∀ x, x ∈ X → x ∈ H) (hb : Byt l) (hl : l.length ≤ 1000000) (h : Ow B w H)
    (k : ∀ F v w', CpP F v (decR l).1.fs → (∀ f ∈ (decR l).1.fs, immOk f.code) → Ow B w' (F ++ H) → K (.tuple #[.agg ((decR l).1.cells v).toArray, vI (decR l).2]) w') : callW PG N.image_Decode [s] K PK w := by
  refine image_Decode.ok ?_
  unfold image_Decode.C
  refine al_rule h (l := p0.cells nilS) (by kernel_rfl) (fun b2 w1 h1 => ?_)
  refine first_spec hs (fun x hx => .tail _ (hX x hx)) hb hl h1 (fun F v w2 hF him h2 => ?_)
  obtain ⟨a1, a2, a3, hv⟩ := cp_sl hF
  have hvp : plainV v = true := by rw [hv]; rfl
  repeat (first | refine pu_not ?_ | refine pu_eql ?_ | refine pu_neq ?_ | refine pu_lss ?_ | refine pu_leq ?_ | refine pu_gtr ?_ | refine pu_geq ?_ | refine pu_add ?_ | refine pu_sub ?_ | refine fa_at ?_ | refine nl_ptr ?_ | refine ex20 ?_ | refine ex21 ?_ | refine ex30 ?_ | refine ex31 ?_ | refine ex32 ?_ | refine ln_rule ?_ | refine pu_seq ?_ | refine pu_sne ?_)
  refine st_here h2 ((firstR l).1.cells v) rfl rfl (cells_plain _ hvp) (by simp [Pr.cells]) (fun w3 h3 => ?_)
  have e3 : (p0.cells nilS).take 0 ++ (firstR l).1.cells v ++ (p0.cells nilS).drop (0 + 4) = (firstR l).1.cells v := rfl
  rw [e3] at h3
  have hdr : decR l = if (firstR l).2.2 = 0 ∧ (firstR l).2.1 < l.length then (p0, 200) else ((firstR l).1, (firstR l).2.2) := by
    unfold decR firstR
    cases hP : progR l with
    | ok q => by_cases hq : q.2 < l.length <;> simp [hq]
    | error e =>
      have : e ≠ 0 := by rcases progR_er hP with rfl | rfl <;> decide
      simp [this]
  generalize firstR l = r at *
  obtain ⟨p, n, e⟩ := r
  simp only at hdr hF him h3 ⊢
  repeat (first | refine pu_not ?_ | refine pu_eql ?_ | refine pu_neq ?_ | refine pu_lss ?_ | refine pu_leq ?_ | refine pu_gtr ?_ | refine pu_geq ?_ | refine pu_add ?_ | refine pu_sub ?_ | refine fa_at ?_ | refine nl_ptr ?_ | refine ex20 ?_ | refine ex21 ?_ | refine ex30 ?_ | refine ex31 ?_ | refine ex32 ?_ | refine ln_rule ?_ | refine pu_seq ?_ | refine pu_sne ?_)
  refine cnd (fun hq => ?_) (fun hq => ?_)
  · have hq : e = 0 := by simpa using hq
    refine sl_ln hs ?_
    repeat (first | refine pu_not ?_ | refine pu_eql ?_ | refine pu_neq ?_ | refine pu_lss ?_ | refine pu_leq ?_ | refine pu_gtr ?_ | refine pu_geq ?_ | refine pu_add ?_ | refine pu_sub ?_ | refine fa_at ?_ | refine nl_ptr ?_ | refine ex20 ?_ | refine ex21 ?_ | refine ex30 ?_ | refine ex31 ?_ | refine ex32 ?_ | refine ln_rule ?_ | refine pu_seq ?_ | refine pu_sne ?_)
    have hbl : (bv l).length = l.length := by simp
    rw [hbl]
    refine cnd (fun hq2 => ?_) (fun hq2 => ?_)
    · have hq2 : n < l.length := by simpa using hq2
      rw [if_pos ⟨hq, hq2⟩] at hdr
      rw [hdr] at k
      simp only at k
      refine pu_build (p0.cells nilS) (by kernel_rfl) ?_
      refine st_here h3 (p0.cells nilS) rfl rfl rfl (by simp [Pr.cells]) (fun w4 h4 => ?_)
      have e4 : (p.cells v).take 0 ++ p0.cells nilS ++ (p.cells v).drop (0 + 4) = p0.cells nilS := rfl
      rw [e4] at h4
      refine ldn_here h4 (List.mem_append_right _ (.head _)) (vs := p0.cells nilS) rfl rfl ?_
      exact k [] nilS _ cp0 (by simp [p0]) (h4.sub (((List.Sublist.refl H).cons _).trans (List.sublist_append_right _ _)))
    · have hq2 : ¬ n < l.length := by simpa using hq2
      rw [if_neg (fun hh => hq2 hh.2)] at hdr
      rw [hdr] at k
      simp only at k
      refine ldn_here h3 (List.mem_append_right _ (.head _)) (vs := p.cells v) rfl rfl ?_
      refine st_here h3 (p.cells v) rfl rfl (cells_plain _ hvp) (by simp [Pr.cells]) (fun w4 h4 => ?_)
      have e4 : (p.cells v).take 0 ++ p.cells v ++ (p.cells v).drop (0 + 4) = p.cells v := rfl
      rw [e4] at h4
      refine ldn_here h4 (List.mem_append_right _ (.head _)) (vs := p.cells v) rfl rfl ?_
      exact k F v _ hF him (h4.sub ((List.Sublist.refl F).append ((List.Sublist.refl H).cons _)))
  · have hq : ¬ e = 0 := by simpa using hq
    rw [if_neg (fun hh => hq hh.1)] at hdr
    rw [hdr] at k
    simp only at k
    refine ldn_here h3 (List.mem_append_right _ (.head _)) (vs := p.cells v) rfl rfl ?_
    refine st_here h3 (p.cells v) rfl rfl (cells_plain _ hvp) (by simp [Pr.cells]) (fun w4 h4 => ?_)
    have e4 : (p.cells v).take 0 ++ p.cells v ++ (p.cells v).drop (0 + 4) = p.cells v := rfl
    rw [e4] at h4
    refine ldn_here h4 (List.mem_append_right _ (.head _)) (vs := p.cells v) rfl rfl ?_
    exact k F v _ hF him (h4.sub ((List.Sublist.refl F).append ((List.Sublist.refl H).cons _)))
theorem is_spec {X : Hp} {s : Value} {l : List Nat} (hs : Sl X s (bv l)) (hX : ∀ x, x ∈ X → x ∈ H) (hb : Byt l) (hl : l.length ≤ 1000000) (h : Ow B w H)
    (k : ∀ w', Ow B w' H → K (vB (decide ((decR l).2 = 0))) w') : callW PG N.image_Is [s] K PK w := by
  refine image_Is.ok ?_
  unfold image_Is.C
  refine decode_spec hs hX hb hl h (fun F v w1 hF him h1 => ?_)
  obtain ⟨a1, a2, a3, hv⟩ := cp_sl hF
  have hvp : plainV v = true := by rw [hv]; rfl
  repeat (first | refine pu_not ?_ | refine pu_eql ?_ | refine pu_neq ?_ | refine pu_lss ?_ | refine pu_leq ?_ | refine pu_gtr ?_ | refine pu_geq ?_ | refine pu_add ?_ | refine pu_sub ?_ | refine fa_at ?_ | refine nl_ptr ?_ | refine ex20 ?_ | refine ex21 ?_ | refine ex30 ?_ | refine ex31 ?_ | refine ex32 ?_ | refine ln_rule ?_ | refine pu_seq ?_ | refine pu_sne ?_)
  refine al_rule h1 (l := p0.cells nilS) (by kernel_rfl) (fun b2 w2 h2 => ?_)
  refine st_here (A := []) h2 ((decR l).1.cells v) rfl rfl (cells_plain _ hvp) (by simp [Pr.cells]) (fun w3 h3 => ?_)
  repeat (first | refine pu_not ?_ | refine pu_eql ?_ | refine pu_neq ?_ | refine pu_lss ?_ | refine pu_leq ?_ | refine pu_gtr ?_ | refine pu_geq ?_ | refine pu_add ?_ | refine pu_sub ?_ | refine fa_at ?_ | refine nl_ptr ?_ | refine ex20 ?_ | refine ex21 ?_ | refine ex30 ?_ | refine ex31 ?_ | refine ex32 ?_ | refine ln_rule ?_ | refine pu_seq ?_ | refine pu_sne ?_)
  rw [ibeq]
  exact k _ (h3.sub (((List.sublist_append_right F H).cons _)))
end
end Go.Proofs.YtkkkcafkepnecaaGreat.Im

