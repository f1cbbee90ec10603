/- Images: programs, one by one. -/
import Derived.Test.YtkkkcafkepnecaaGreatIW
import Derived.Test.YtkkkcafkepnecaaGreatZN
import Derived.Test.YtkkkcafkepnecaaGreatGW

set_option linter.unusedVariables false
set_option linter.unusedSimpArgs false
set_option linter.unnecessarySimpa false
namespace Go.Proofs.YtkkkcafkepnecaaGreat.Im
open Go Go.RowKit Vc Oc Dg
attribute [local irreducible] binV Op.unary convert nlW faW ldS ldW ixS ixA ixV ixT exW lnS lnT pu stW alW opW opU bsW mkW

section
variable {B w : World} {H C X Y : Hp} {K KW : Value → World → Prop} {KK : Value → Prop} {PK : List PanicEntry → World → Prop} {s : Value} {l : List Nat} {a : Nat} {e : Int}
/-- Programs, one behind the other, from a place on. -/
def eachL (l : List Nat) : Nat → Nat → List (Nat × Pr)
  | 0, _ => []
  | f + 1, a => if (firstR (l.drop a)).2.2 = 0 then (a, (firstR (l.drop a)).1) :: eachL l f (a + (firstR (l.drop a)).2.1) else []
theorem first_le {l : List Nat} (h : (firstR l).2.2 = 0) : 8 ≤ (firstR l).2.1 ∧ (firstR l).2.1 ≤ l.length := by
  unfold firstR at *
  cases hP : progR l with
  | ok q => have := progR_ok hP; exact ⟨this.1, this.2.1⟩
  | error e => rw [hP] at h; rcases progR_er hP with rfl | rfl <;> cases h
def evT (es : List (Nat × Pr)) (i : Nat) (args : List Value) (F : Hp) : Prop := ∃ a p v, args = [vI (a : Nat), .agg (p.cells v).toArray] ∧ es[i]? = some (a, p) ∧ fsIn F v p.fs
theorem evT_mono {es : List (Nat × Pr)} : ∀ i args F F', (∀ x, x ∈ F → x ∈ F') → evT es i args F → evT es i args F' := fun i args F F' hs ⟨a, p, v, h1, h2, h3⟩ => ⟨a, p, v, h1, h2, h3.mono hs⟩
theorem every1_seq {b : Nat} (hb : (b, cel [s] T.t_sl_uint8) ∈ H) (hs : Sl H s (bv l)) (hby : Byt l) (hl : l.length ≤ 800000) : SeqX PG B H (fnc N.image_every_1 #[ptr b]) (eachL l (l.length + 1) 0).length (evT (eachL l (l.length + 1) 0)) := by
  refine SeqX.fn image_every_1.okf ?_
  intro y J Z K PK w X hy hw j0 hr he
  refine image_every_1.ok ?_
  unfold image_every_1.C
  generalize hE : eachL l (l.length + 1) 0 = E at hr he
  refine ld_here hw (List.mem_append_right _ hb) (v := s) rfl ?_
  have hsX : ∀ (X Y : Hp), Sl (X ++ (Y ++ H)) s (bv l) := fun X Y => hs.mono fun x hx => List.mem_append_right _ (List.mem_append_right _ hx)
  refine first_spec (hs.mono fun x hx => List.mem_append_right _ hx) (fun x hx => hx) hby (by omega) hw (fun F v w1 hF him h1 => ?_)
  obtain ⟨a1, a2, a3, hv⟩ := cp_sl hF
  repeat (first | refine pu_not ?_ | refine pu_eql ?_ | refine pu_neq ?_ | refine pu_lss ?_ | refine pu_leq ?_ | refine pu_gtr ?_ | refine pu_geq ?_ | refine pu_add ?_ | refine pu_sub ?_ | refine fa_at ?_ | refine nl_ptr ?_ | refine ex20 ?_ | refine ex21 ?_ | refine ex30 ?_ | refine ex31 ?_ | refine ex32 ?_ | refine ln_rule ?_ | refine pu_seq ?_ | refine pu_sne ?_)
  refine al_rule h1 (l := p0.cells nilS) (by kernel_rfl) (fun b9 w2 h2 => ?_)
  refine st_here (A := []) h2 ((firstR l).1.cells v) rfl rfl (cells_plain _ (by rw [hv]; rfl)) (by simp [Pr.cells]) (fun w3 h3 => ?_)
  have h3 : Ow B w3 (X ++ ((((b9, pgO (firstR l).1 v) :: F)) ++ H)) := by
    have h3 : Ow B w3 (((b9, pgO (firstR l).1 v) :: F) ++ (X ++ H)) := h3
    exact h3.perm (List.perm_append_comm_assoc _ X H)
  refine ⟨fun l' w => ∃ (k a f bp : Nat) (X Y : Hp) (v : Value), l' = [vI a, ptr bp, vI (firstR (l.drop a)).2.1, vI (firstR (l.drop a)).2.2] ∧ a ≤ l.length ∧ l.length - a < f ∧ E.drop k = eachL l f a ∧ k ≤ E.length ∧ J k X ∧
      fsIn (Y ++ H) v (firstR (l.drop a)).1.fs ∧ plainV v = true ∧ (bp, pgO (firstR (l.drop a)).1 v) ∈ Y ++ H ∧ Ow B w (X ++ (Y ++ H)),
    fun l' _ => match l' with | [.int _ q, _, _, .int _ e] => l.length + 1 - q.toNat | _ => 0,
    ⟨0, 0, l.length + 1, b9, X, (b9, pgO (firstR l).1 v) :: F, v, rfl, Nat.zero_le _, by omega, by rw [List.drop_zero, hE], Nat.zero_le _, j0, (hF.ins him).mono fun x hx => List.mem_append_left _ (.tail _ hx), by rw [hv]; rfl, .head _, h3⟩, ?_⟩
  clear h3 h2 h1 hw j0 hF him hv
  rintro l' w4 ⟨k, a, f, bp, X, Y, v, rfl, ha, hf, hd, hk, hj, hfs, hvp, hm, h4⟩ jj
  simp only [gv, List.getD_cons_zero, List.getD_cons_succ]
  obtain ⟨f, rfl⟩ : ∃ g, f = g + 1 := ⟨f - 1, by omega⟩
  unfold eachL at hd
  have hfle := @first_le (l.drop a)
  rw [List.length_drop] at hfle
  generalize hfr : firstR (l.drop a) = r at hd hfs hm hfle ⊢
  obtain ⟨p, n, e⟩ := r
  simp only at hd hfs hm hfle ⊢
  repeat (first | refine pu_not ?_ | refine pu_eql ?_ | refine pu_neq ?_ | refine pu_lss ?_ | refine pu_leq ?_ | refine pu_gtr ?_ | refine pu_geq ?_ | refine pu_add ?_ | refine pu_sub ?_ | refine fa_at ?_ | refine nl_ptr ?_ | refine ex20 ?_ | refine ex21 ?_ | refine ex30 ?_ | refine ex31 ?_ | refine ex32 ?_ | refine ln_rule ?_ | refine pu_seq ?_ | refine pu_sne ?_)
  refine cnd (fun hq => ?_) (fun hq => ?_)
  · have hq : e = 0 := by simpa using hq
    subst hq
    rw [if_pos rfl] at hd
    have hlt : k < E.length := by
      rcases Nat.lt_or_ge k E.length with h | h
      · exact h
      · rw [List.drop_eq_nil_of_le h] at hd; cases hd
    rw [List.drop_eq_getElem_cons hlt] at hd
    have hat : E[k]? = some (a, p) := by rw [List.getElem?_eq_getElem hlt]; exact congrArg some (List.cons.inj hd).1
    have hd2 := (List.cons.inj hd).2
    have hn := hfle rfl
    refine ldn_here h4 (List.mem_append_right _ hm) (vs := p.cells v) rfl rfl ?_
    refine hr k _ X (Y ++ H) _ _ w4 hlt ⟨a, p, v, rfl, hat, hfs⟩ hj (fun x hx => List.mem_append_right _ hx) h4 (fun X' w5 h5 hj5 => ?_) (fun X' w5 h5 hz5 => ?_)
    · refine cnd_t rfl ?_
      repeat (first | refine pu_not ?_ | refine pu_eql ?_ | refine pu_neq ?_ | refine pu_lss ?_ | refine pu_leq ?_ | refine pu_gtr ?_ | refine pu_geq ?_ | refine pu_add ?_ | refine pu_sub ?_ | refine fa_at ?_ | refine nl_ptr ?_ | refine ex20 ?_ | refine ex21 ?_ | refine ex30 ?_ | refine ex31 ?_ | refine ex32 ?_ | refine ln_rule ?_ | refine pu_seq ?_ | refine pu_sne ?_)
      rw [wrap64_in (by omega) (by omega)]
      refine ldn_here h5 (List.mem_append_right _ hm) (vs := p.cells v) rfl rfl ?_
      refine al_rule h5 (l := p0.cells nilS) (by kernel_rfl) (fun b27 w6 h6 => ?_)
      refine st_here (A := []) h6 (p.cells v) rfl rfl (cells_plain _ hvp) (by simp [Pr.cells]) (fun w7 h7 => ?_)
      have h7 : Ow B w7 ((b27, pgO p v) :: (X' ++ (Y ++ H))) := h7
      refine ld_here h7 (.tail _ (List.mem_append_right _ (List.mem_append_right _ hb))) (v := s) rfl ?_
      have hbl : (bv l).length = l.length := by simp
      refine cutL hs (by omega) (by rw [hbl]; omega) (fun c hc => ?_)
      have hcut := sl_cut (l := a + n) (h := l.length) (m := c) hs (by omega) (by simp) (by simpa using hc)
      rw [bv_drop] at hcut
      have han : ((a : Int) + n).toNat = a + n := by omega
      rw [han, hbl]
      refine first_spec hcut (fun x hx => .tail _ (List.mem_append_right _ (List.mem_append_right _ hx))) (byt_drop hby _) (by rw [List.length_drop]; omega) h7 (fun F' v' w8 hF' him' h8 => ?_)
      obtain ⟨a1, a2, a3, hv'⟩ := cp_sl hF'
      repeat (first | refine pu_not ?_ | refine pu_eql ?_ | refine pu_neq ?_ | refine pu_lss ?_ | refine pu_leq ?_ | refine pu_gtr ?_ | refine pu_geq ?_ | refine pu_add ?_ | refine pu_sub ?_ | refine fa_at ?_ | refine nl_ptr ?_ | refine ex20 ?_ | refine ex21 ?_ | refine ex30 ?_ | refine ex31 ?_ | refine ex32 ?_ | refine ln_rule ?_ | refine pu_seq ?_ | refine pu_sne ?_)
      refine st_here h8 ((firstR (l.drop (a + n))).1.cells v') rfl rfl (cells_plain _ (by rw [hv']; rfl)) (by simp [Pr.cells]) (fun w9 h9 => ?_)
      have e4 : (p.cells v).take 0 ++ (firstR (l.drop (a + n))).1.cells v' ++ (p.cells v).drop (0 + 4) = (firstR (l.drop (a + n))).1.cells v' := rfl
      rw [e4] at h9
      have h10 : Ow B w9 (X' ++ ((F' ++ (b27, pgO (firstR (l.drop (a + n))).1 v') :: Y) ++ H)) := by
        have h9 : Ow B w9 ((F' ++ [(b27, pgO (firstR (l.drop (a + n))).1 v')]) ++ (X' ++ (Y ++ H))) := by simpa using h9
        have := h9.perm (List.perm_append_comm_assoc _ X' (Y ++ H))
        simpa using this
      refine ⟨⟨k + 1, a + n, f, b27, X', F' ++ (b27, pgO (firstR (l.drop (a + n))).1 v') :: Y, v', rfl, by omega, by omega, hd2, hlt, hj5, (hF'.ins him').mono fun x hx => List.mem_append_left _ (List.mem_append_left _ hx), by rw [hv']; rfl, List.mem_append_left _ (List.mem_append_right _ (.head _)), h10⟩, ?_⟩
      show l.length + 1 - ((a : Int) + n).toNat < l.length + 1 - (a : Int).toNat
      omega
    · refine cnd_f rfl ?_
      exact he _ X' w5 (h5.sub ((List.Sublist.refl X').append (List.sublist_append_right Y H))) (.inr hz5)
  · have hq : ¬ e = 0 := by simpa using hq
    rw [if_neg hq] at hd
    obtain rfl : k = E.length := by
      have := congrArg List.length hd
      rw [List.length_drop] at this
      simp at this; omega
    exact he _ X w4 (h4.sub ((List.Sublist.refl X).append (List.sublist_append_right Y H))) (.inl hj)
set_option maxRecDepth 20000 in
theorem each1_seq {b : Nat} (hb : (b, cel [s] T.t_sl_uint8) ∈ H) (hs : Sl H s (bv l)) (hby : Byt l) (hl : l.length ≤ 800000) : SeqX PG B H (fnc N.image_Each_1 #[ptr b]) (eachL l (l.length + 1) 0).length (evT (eachL l (l.length + 1) 0)) := by
  refine SeqX.fn image_Each_1.okf ?_
  intro y J Z K PK w X hy hw j0 hr he
  refine image_Each_1.ok ?_
  unfold image_Each_1.C
  refine al_rule hw (l := [y]) (fn_cells hy) (fun b2 w1 h1 => ?_)
  refine ld_here h1 (.tail _ (List.mem_append_right _ hb)) (v := s) rfl ?_
  refine image_every.ok ?_
  unfold image_every.C
  refine al_rule h1 (l := [s]) (sl_pc hs).1 (fun b4 w2 h2 => ?_)
  have h2 : Ow B w2 (X ++ ((b4, cel [s] T.t_sl_uint8) :: (b2, cel [y] T.t_func_int_api_Program_bool) :: H)) := by
    refine h2.perm ?_
    exact (List.perm_middle (l₁ := X) (l₂ := (b2, cel [y] T.t_func_int_api_Program_bool) :: H) (a := (b4, cel [s] T.t_sl_uint8))).trans ((List.perm_middle (l₁ := X)).cons _) |>.symm
  have hin : ∀ x, x ∈ H → x ∈ (b4, cel [s] T.t_sl_uint8) :: (b2, cel [y] T.t_func_int_api_Program_bool) :: H := fun x hx => .tail _ (.tail _ hx)
  refine range_fnX (X := X) (H := (b4, cel [s] T.t_sl_uint8) :: (b2, cel [y] T.t_func_int_api_Program_bool) :: H) (A := image_Each_1.note) (fuel := 400) mixed (every1_seq (.head _) (hs.mono hin) hby hl) evT_mono (by simp) (fun i args F ⟨a, p, v, e, _⟩ => by rw [e]; rfl) h2 (fun k Y => J k Y) (fun j Y => j = .exit 0 ∧ Z Y) j0 ?_ ?_ ?_
  · rintro lp r k args Y F R w6 hk ⟨a, p, v, rfl, hat, hfs⟩ hj hF h6 k1 k2 u
    refine Eq.mpr (image_Each_1.Rd0_eq lp R _ _ _ w6 u) ?_
    unfold image_Each_1.Rd0
    refine al_rule h6 (l := p0.cells nilS) (by kernel_rfl) (fun bx w7 h7 => ?_)
    refine st_here (A := []) h7 (p.cells v) rfl rfl (cells_plain _ hfs.plain) (by simp [Pr.cells]) (fun w8 h8 => ?_)
    have h8 : Ow B w8 ((bx, pgO p v) :: (lp, recR r) :: (Y ++ F)) := h8
    have h8 : Ow B w8 ((lp, recR r) :: (bx, pgO p v) :: (Y ++ F)) := h8.perm (.swap _ _ _)
    refine rbeg h8 (fun w9 h9 => ?_)
    have h9 : Ow B w9 (Y ++ ((lp, recB r) :: (bx, pgO p v) :: F)) := by
      refine h9.perm ?_
      exact ((List.perm_middle (l₁ := Y) (l₂ := (bx, pgO p v) :: F) (a := (lp, recB r))).trans ((List.perm_middle (l₁ := Y)).cons _)).symm
    refine ld_here h9 (List.mem_append_right _ (.tail _ (.tail _ (hF _ (.tail _ (.head _)))))) (v := y) rfl ?_
    refine ldn_here h9 (List.mem_append_right _ (.tail _ (.head _))) (vs := p.cells v) rfl rfl ?_
    have back : ∀ {X' : Hp} {w : World}, Ow B w (X' ++ ((lp, recB r) :: (bx, pgO p v) :: F)) → Ow B w ((lp, recB r) :: (X' ++ F)) := fun {X' w} h => by
      have := h.sub ((List.Sublist.refl X').append ((List.Sublist.cons_cons (lp, recB r) (.cons (bx, pgO p v) (.refl F)))))
      exact this.perm (List.perm_middle (l₁ := X'))
    refine hr k _ Y ((lp, recB r) :: (bx, pgO p v) :: F) _ _ w9 hk ⟨a, p, v, rfl, hat, hfs.mono fun x hx => .tail _ (.tail _ hx)⟩ hj (fun x hx => .tail _ (.tail _ (hF _ (hin x hx)))) h9 (fun X' w11 h11 hj11 => ?_) (fun X' w11 h11 hz11 => ?_)
    · repeat (first | refine pu_not ?_ | refine pu_eql ?_ | refine pu_neq ?_ | refine pu_lss ?_ | refine pu_leq ?_ | refine pu_gtr ?_ | refine pu_geq ?_ | refine pu_add ?_ | refine pu_sub ?_ | refine fa_at ?_ | refine nl_ptr ?_ | refine ex20 ?_ | refine ex21 ?_ | refine ex30 ?_ | refine ex31 ?_ | refine ex32 ?_ | refine ln_rule ?_ | refine pu_seq ?_ | refine pu_sne ?_)
      refine cnd_f rfl ?_
      exact rend_go (back h11) (fun w12 h12 => k1 X' w12 hj11 h12)
    · repeat (first | refine pu_not ?_ | refine pu_eql ?_ | refine pu_neq ?_ | refine pu_lss ?_ | refine pu_leq ?_ | refine pu_gtr ?_ | refine pu_geq ?_ | refine pu_add ?_ | refine pu_sub ?_ | refine fa_at ?_ | refine nl_ptr ?_ | refine ex20 ?_ | refine ex21 ?_ | refine ex30 ?_ | refine ex31 ?_ | refine ex32 ?_ | refine ln_rule ?_ | refine pu_seq ?_ | refine pu_sne ?_)
      refine cnd_t rfl ?_
      exact rend_stop (back h11) (fun w12 h12 => k2 (.exit 0) X' w12 ⟨rfl, hz11⟩ h12)
  · rintro mk Y w6 hj h6
    refine lv_ret h6 (fun w7 h7 => ?_)
    exact he _ Y w7 (h7.sub ((List.Sublist.refl Y).append (.cons _ (.cons _ (.refl _))))) (.inl hj)
  · rintro mk j Y w6 ⟨rfl, hz⟩ h6
    refine lv_ret h6 (fun w7 h7 => ?_)
    exact he _ Y w7 (h7.sub ((List.Sublist.refl Y).append (.cons _ (.cons _ (.refl _))))) (.inr hz)
theorem ieach_spec (hs : Sl X s (bv l)) (hX : ∀ y, y ∈ X → y ∈ H) (hl : l.length ≤ 800000) (h : Ow B w H) (k : ∀ b S s' w', Ow B w' ((b, cel [s'] T.t_sl_uint8) :: (S ++ H)) → Sl S s' (bv l) → K (fnc N.image_Each_1 #[ptr b]) w') : callW PG N.image_Each [s] K PK w := by
  refine image_Each.ok ?_
  unfold image_Each.C
  have fin : ∀ (S : Hp) (s' : Value) (w : World), Ow B w (S ++ H) → Sl S s' (bv l) → alW (zc PG T.t_sl_uint8) T.t_sl_uint8 (fun t5 w6 => stW 1 t5 s' (fun w7 => K (.func (.func N.image_Each_1) #[] #[t5]) w7) w6) w := fun S s' w h ho => by
    refine al_rule h (l := [nilS]) (by kernel_rfl) (fun b w1 h1 => ?_)
    refine st1_here (A := []) h1 (sl_pc ho).1 (sl_pc ho).2 (by simp) (fun w2 h2 => ?_)
    exact k b S s' _ h2 ho
  refine slices_Clone_sl_byte_byte.ok ?_
  unfold slices_Clone_sl_byte_byte.C
  obtain ⟨p, c, rfl, hc⟩ := Sl.cap hs
  have hbl : (bv l).length = l.length := by simp
  refine pu_slnil und_slb ?_
  refine cnd (fun hq => ?_) (fun hq => ?_)
  · have hp : p = none := by cases p <;> first | rfl | cases hq
    subst hp
    have hl0 : l = [] := by
      cases l with
      | nil => rfl
      | cons x l =>
        obtain ⟨a, c', he, _, hx⟩ := id hs
        cases he
        obtain ⟨q, hq, _⟩ := hx 0 _ rfl
        cases hq
    subst hl0
    exact fin [] nilS w h ⟨none, 0, rfl, Nat.le_refl _, fun i x hx => by simp at hx⟩
  · refine bs_rule h [] (by kernel_rfl) (fun b1 w4 h4 => ?_)
    refine app1 (A := []) (S := [(b1, cel [] T.t_uint8)]) (z := v8 0) (bytes := 1) h4 (Own.mk (n := 0) (cap := 0) (xs := []) (Nat.le_refl _) (Nat.zero_le _) rfl rfl) hs (fun y hy => .tail _ (hX y hy)) (by simp [plainV]) und_slb info_u8 rfl (by rw [hbl]; simp only [maxLen]; omega) (by rw [hbl]; omega) (fun S c w5 h5 ho => ?_)
    simp only [List.nil_append, Nat.zero_add] at ho h5
    exact fin S c w5 h5 ho.sl
end
end Go.Proofs.YtkkkcafkepnecaaGreat.Im

/-! Images: programs that are handed in, one by one; how long; what is laid by. -/
set_option linter.unusedVariables false
set_option linter.unusedSimpArgs false
set_option linter.unnecessarySimpa false
namespace Go.Proofs.YtkkkcafkepnecaaGreat.Im
open Go Go.RowKit Vc Oc Dg
attribute [local irreducible] binV Op.unary convert nlW faW ldS ldW ixS ixA ixV ixT exW lnS lnT pu stW alW opW opU bsW mkW

section
variable {B w : World} {H C X Y : Hp} {K KW : Value → World → Prop} {KK : Value → Prop} {PK : List PanicEntry → World → Prop} {s v : Value} {l : List Nat} {p : Pr}
/-- Rows of programs. -/
def prows (ps : List (Value × Pr)) : List (List Value) := ps.map fun q => q.2.cells q.1
theorem prows_len (ps : List (Value × Pr)) : (prows ps).length = ps.length := by simp [prows]
theorem prows_four (ps : List (Value × Pr)) : ∀ x ∈ prows ps, x.length = 4 := fun x hx => by
  obtain ⟨q, _, rfl⟩ := List.mem_map.1 hx
  rfl
theorem progs_of {v0 : Value} (g : FitV PG H T.t_sl_api_Program v0) : ∃ ps : List (Value × Pr), Sls H v0 4 (prows ps) ∧ ∀ q ∈ ps, fsIn H q.1 q.2.fs := by
  obtain ⟨xs, hs, hx⟩ := FitV.slice (e := T.t_api_Program) (by kernel_rfl) g
  have hc : PG.cellsOf T.t_api_Program = 4 := by kernel_rfl
  rw [hc] at hs
  have : ∀ {xs : List (List Value)}, (∀ x ∈ xs, Fit PG H T.t_api_Program x) → ∃ ps : List (Value × Pr), xs = prows ps ∧ ∀ q ∈ ps, fsIn H q.1 q.2.fs := fun {xs} => by
    induction xs with
    | nil => intro _; exact ⟨[], rfl, fun q hq => by cases hq⟩
    | cons x xs ih =>
      intro h
      obtain ⟨ps, rfl, h2⟩ := ih fun z hz => h z (.tail _ hz)
      obtain ⟨p, v, rfl, h3⟩ := prog_of' (h x (.head _))
      refine ⟨(v, p) :: ps, rfl, fun q hq => ?_⟩
      rcases List.mem_cons.1 hq with rfl | hq
      · exact h3
      · exact h2 q hq
  obtain ⟨ps, rfl, h⟩ := this hx
  exact ⟨ps, hs, h⟩
theorem encR_byt (p : Pr) : Byt (encR p).1 := by
  unfold encR
  split
  · rename_i hk; exact enc_byt hk
  · intro x hx; cases hx
theorem encR_len (h : p.fs.length ≤ 12) : (encR p).1.length ≤ 110000 := by
  unfold encR
  split
  · rename_i hk
    have hf := ok_fits hk
    have := funs_len p.fs fun f hm => (hf.f f hm).2.2
    simp only [encB, bareB, headB, magic, List.length_append, List.length_cons, List.length_nil, fx_len]
    omega
  · simp
theorem rlen_spec (hv : fsIn X v p.fs) (hX : ∀ x, x ∈ X → x ∈ H) (h : Ow B w H) (k : ∀ (r : Int) w', Ow B w' H → K (vI r) w') : callW PG N.linesmanref09_Len [.agg (p.cells v).toArray] K PK w := by
  refine linesmanref09_Len.ok ?_
  unfold linesmanref09_Len.C
  obtain ⟨ps, e1, e2, e3⟩ := id hv
  have hpl : ps.length = p.fs.length := by rw [← e1]; simp
  have hml := e2.max
  have hfr : (frows ps).length = p.fs.length := by simp [frows, hpl]
  rw [hfr] at hml
  have hmx : maxLen = 9223372036854775807 := rfl
  refine al_rule h (l := p.cells v) rfl (fun b2 w1 h1 => ?_)
  refine ⟨fun l w => ∃ (m : Int) (i : Nat), l = [vI m, vI i] ∧ i ≤ p.fs.length ∧ Ow B w ((b2, pgO p v) :: H), fun l _ => match l with | [_, .int _ q] => p.fs.length - q.toNat | _ => 0, ⟨0, 0, rfl, by omega, h1⟩, ?_⟩
  clear h1
  rintro l w2 ⟨m, i, rfl, hi, h2⟩ j
  simp only [gv, List.getD_cons_zero, List.getD_cons_succ]
  repeat (first | refine pu_not ?_ | refine pu_eql ?_ | refine pu_neq ?_ | refine pu_lss ?_ | refine pu_leq ?_ | refine pu_gtr ?_ | refine pu_geq ?_ | refine pu_add ?_ | refine pu_sub ?_ | refine fa_at ?_ | refine nl_ptr ?_ | refine ex20 ?_ | refine ex21 ?_ | refine ex30 ?_ | refine ex31 ?_ | refine ex32 ?_ | refine ln_rule ?_ | refine pu_seq ?_ | refine pu_sne ?_)
  refine ld_here h2 (.head _) (v := v) rfl ?_
  refine hv.ln ?_
  repeat (first | refine pu_not ?_ | refine pu_eql ?_ | refine pu_neq ?_ | refine pu_lss ?_ | refine pu_leq ?_ | refine pu_gtr ?_ | refine pu_geq ?_ | refine pu_add ?_ | refine pu_sub ?_ | refine fa_at ?_ | refine nl_ptr ?_ | refine ex20 ?_ | refine ex21 ?_ | refine ex30 ?_ | refine ex31 ?_ | refine ex32 ?_ | refine ln_rule ?_ | refine pu_seq ?_ | refine pu_sne ?_)
  refine cnd (fun hlt => ?_) (fun hlt => ?_)
  · have hlt : i < p.fs.length := by simpa using hlt
    obtain ⟨⟨c, f⟩, hq⟩ : ∃ q, ps[i]? = some q := ⟨_, List.getElem?_eq_getElem (by omega)⟩
    obtain ⟨q1, q2⟩ := e3 _ (List.mem_of_getElem? hq)
    simp only at q1 q2
    have hrow : (frows ps)[(i : Int).toNat]? = some [vI f.regs, c] := by rw [Int.toNat_natCast, frows, List.getElem?_map, hq]; rfl
    repeat (first | refine pu_not ?_ | refine pu_eql ?_ | refine pu_neq ?_ | refine pu_lss ?_ | refine pu_leq ?_ | refine pu_gtr ?_ | refine pu_geq ?_ | refine pu_add ?_ | refine pu_sub ?_ | refine fa_at ?_ | refine nl_ptr ?_ | refine ex20 ?_ | refine ex21 ?_ | refine ex30 ?_ | refine ex31 ?_ | refine ex32 ?_ | refine ln_rule ?_ | refine pu_seq ?_ | refine pu_sne ?_)
    refine ld_here h2 (.head _) (v := v) rfl ?_
    refine sls_fld (j := 1) (x := [vI f.regs, c]) (v := c) h2 (e2.mono fun x hx => .tail _ (hX x hx)) (by omega) hrow rfl ?_
    refine sls_ln q1 ?_
    repeat (first | refine pu_not ?_ | refine pu_eql ?_ | refine pu_neq ?_ | refine pu_lss ?_ | refine pu_leq ?_ | refine pu_gtr ?_ | refine pu_geq ?_ | refine pu_add ?_ | refine pu_sub ?_ | refine fa_at ?_ | refine nl_ptr ?_ | refine ex20 ?_ | refine ex21 ?_ | refine ex30 ?_ | refine ex31 ?_ | refine ex32 ?_ | refine ln_rule ?_ | refine pu_seq ?_ | refine pu_sne ?_)
    rw [wrapN (by omega)]
    exact ⟨⟨_, i + 1, rfl, hlt, h2⟩, by simp; omega⟩
  · exact k _ _ h2.drop
/-! ### Marks of ranges -/
def mkB (ms : List Nat) : Hp := ms.map fun b => (b, .deferred (some []))
def mkD (ms : List Nat) : D := ms.map fun b => { target := .collected b, args := #[] }
theorem lv_rets {XK : World → Prop} {RE : Ending → World → Prop} {C : Hp} : ∀ {ms : List Nat} {w : World}, Ow B w (mkB ms ++ C) → (∀ w', Ow B w' C → XK w') → LvW PG (mkD ms) .returning w (endV XK RE)
  | [], w, h, k => k w h
  | b :: ms, w, h, k => ⟨by simp, .inl ⟨b, rfl, h.mem _ _ List.mem_cons_self, lv_rets (h.put (A := []) (.deferred none)).drop k⟩⟩
/-- The places and the programs. -/
def atsV (es : List (Nat × Pr)) : List Value := es.map fun q => vI (q.1 : Nat)
theorem eachL_bound {l : List Nat} : ∀ (f a : Nat), a ≤ l.length → a + 8 * (eachL l f a).length ≤ l.length
  | 0, a, h => by simp [eachL]; exact h
  | f + 1, a, h => by
    unfold eachL
    split
    · rename_i h0
      have := first_le h0
      rw [List.length_drop] at this
      have := eachL_bound (l := l) f (a + (firstR (l.drop a)).2.1) (by omega)
      simp only [List.length_cons]; omega
    · simpa using h
end
end Go.Proofs.YtkkkcafkepnecaaGreat.Im

/-! The law ImageEach: all images, one behind the other. -/
set_option linter.unusedVariables false
set_option linter.unusedSimpArgs false
set_option linter.unnecessarySimpa false
namespace Go.Proofs.YtkkkcafkepnecaaGreat.Im
open Go Go.RowKit Vc Oc Dg
attribute [local irreducible] binV Op.unary convert nlW faW ldS ldW ixS ixA ixV ixT exW lnS lnT pu stW alW opW opU bsW mkW

section
variable {B w : World} {H C X Y : Hp} {K KW : Value → World → Prop} {KK : Value → Prop} {PK : List PanicEntry → World → Prop} {s v : Value} {l : List Nat} {p : Pr}
theorem info_int : (PG.info? T.t_int).map (fun i => (i.zero, i.size, i.bytes)) = some (some (vI 0), 1, 8) := by kernel_rfl
theorem info_prog : (PG.info? T.t_api_Program).map (fun i => (i.zero, i.size, i.bytes)) = some (some (.agg #[.slice none 0 0, vI 0, vI 0, vI 0]), 4, 48) := by kernel_rfl
theorem und_sli : PG.underlying T.t_sl_int = some (.slice T.t_int) := by kernel_rfl
theorem und_slp : PG.underlying T.t_sl_api_Program = some (.slice T.t_api_Program) := by kernel_rfl
/-- What is laid by: the places, the programs. -/
structure Laid (es : List (Nat × Pr)) (k : Nat) (S1 S2 F : Hp) (u1 u2 : Value) (qs : List (Value × Pr)) : Prop where
  o1 : Vc.Own S1 T.t_int 1 u1 k (atsV (es.take k))
  o2 : Vc.Own S2 T.t_api_Program 4 u2 k (prows qs).flatten
  n : qs.length = k
  p : qs.map Prod.snd = (es.take k).map Prod.snd
  f : ∀ q ∈ qs, fsIn F q.1 q.2.fs
theorem laid_none (es : List (Nat × Pr)) : Laid es 0 [] [] [] nilS nilS [] := ⟨own_none _ _, own_none _ _, rfl, rfl, fun q hq => by cases hq⟩
/-- One more is laid by. -/
theorem ints_app {es : List (Nat × Pr)} {k a : Nat} {S1 A C : Hp} {u1 : Value} {b : Nat} (ho : Vc.Own S1 T.t_int 1 u1 k (atsV (es.take k))) (hat : es[k]? = some (a, p)) (hk : k ≤ 800000) (hb : (b, cel [vI (a : Nat)] T.t_int) ∈ A ++ S1 ++ C) (h : Ow B w (A ++ S1 ++ C))
    (kk : ∀ S1' u1' w', Ow B w' (A ++ S1' ++ C) → Vc.Own S1' T.t_int 1 u1' (k + 1) (atsV (es.take (k + 1))) → KW u1' w') : opW PG (Builtin.append_ #[T.t_sl_int, T.t_sl_int] T.t_sl_int #[u1, .slice (some ⟨b, 0, none⟩) 1 1]) KW w := by
  refine app1 (z := vI 0) (bytes := 8) h ho (sl_here (b := b) (l := [vI (a : Nat)]) (e := T.t_int) (H := A ++ S1 ++ C) hb) (fun y hy => hy) rfl und_sli info_int rfl (by simp only [List.length_singleton, maxLen]; omega) (by simp only [List.length_singleton]; omega) (fun S1' u1' w1 h1 ho1 => ?_)
  refine kk S1' u1' w1 h1 ?_
  have e : atsV (es.take (k + 1)) = atsV (es.take k) ++ [vI (a : Nat)] := by rw [List.take_add_one, hat]; simp [atsV]
  rw [e]; exact ho1
theorem progs_app {k : Nat} {S2 A C : Hp} {u2 : Value} {b : Nat} {qs : List (Value × Pr)} (ho : Vc.Own S2 T.t_api_Program 4 u2 k (prows qs).flatten) (hvp : plainV v = true) (hk : k ≤ 800000) (hb : (b, cel (p.cells v) T.t_api_Program) ∈ A ++ S2 ++ C) (h : Ow B w (A ++ S2 ++ C))
    (kk : ∀ S2' u2' w', Ow B w' (A ++ S2' ++ C) → Vc.Own S2' T.t_api_Program 4 u2' (k + 1) (prows (qs ++ [(v, p)])).flatten → KW u2' w') : opW PG (Builtin.append_ #[T.t_sl_api_Program, T.t_sl_api_Program] T.t_sl_api_Program #[u2, .slice (some ⟨b, 0, none⟩) 1 1]) KW w := by
  obtain ⟨ii, i1, i2, i3, i4⟩ := info_of info_prog
  refine app_rule (m := 1) h ho (src_here (b := b) (l := p.cells v) (e := T.t_api_Program) (len := 1) (size := 4) hb rfl) (fun y hy => hy) (cells_plain p hvp) und_slp i1 i2 i3 i4 rfl (by omega) (by simp only [maxLen]; omega) (by omega) (fun S' v' w1 h1 ho1 => ?_)
  refine kk S' v' w1 h1 ?_
  have e : (prows (qs ++ [(v, p)])).flatten = (prows qs).flatten ++ p.cells v := by simp [prows]
  rw [e]; exact ho1
end
end Go.Proofs.YtkkkcafkepnecaaGreat.Im

/-! The law ImageEach. -/
set_option linter.unusedVariables false
set_option linter.unusedSimpArgs false
set_option linter.unnecessarySimpa false
namespace Go.Proofs.YtkkkcafkepnecaaGreat.Im
open Go Go.RowKit Vc Oc Dg
attribute [local irreducible] binV Op.unary convert nlW faW ldS ldW ixS ixA ixV ixT exW lnS lnT pu stW alW opW opU bsW mkW

section
variable {B w : World} {H : Hp} {K : Value → World → Prop} {PK : List PanicEntry → World → Prop}
set_option maxRecDepth 20000 in
theorem each_law {v0 v1 v2 : Value} (g0 : FitV PG H T.t_sl_api_Program v0) (g1 : FitV PG H T.t_sl_uint8 v1) (g2 : FitV PG H T.t_int v2) (h : Ow B w H) (k : ∀ w', Ow B w' H → K (vB true) w') : callW PG N.linesmanlaw10_ImageEach [v0, v1, v2] K PK w := by
  obtain ⟨ps, hps, hpf⟩ := progs_of g0
  obtain ⟨t, ht, htm, htb⟩ := bytes_of g1
  obtain ⟨many, rfl, hmw⟩ := g2.int und_int
  have hmany := wf_i64 hmw
  refine linesmanlaw10_ImageEach.ok ?_
  unfold linesmanlaw10_ImageEach.C
  refine al_rule h (l := [vI many]) rfl (fun bm w1 h1 => ?_)
  refine al_rule h1 (l := [vB false]) (by kernel_rfl) (fun br w2 h2 => ?_)
  have wk : ∀ (Y : Hp) (w : World), Ow B w (Y ++ (br, cel [vB false] T.t_bool) :: (bm, cel [vI many] T.t_int) :: H) → callW PG N.linesmanlaw10_works [] (fun t13 w14 => stW 1 (ptr br) t13 (fun w15 => ldW none (ptr br) w15 fun t16 => K t16 w15) w14) PK w := fun Y w h => by
    refine works_spec h (fun w3 h3 => ?_)
    refine st1_here h3 rfl rfl (by simp) (fun w4 h4 => ?_)
    refine ld_here h4 (List.mem_append_right _ (.head _)) (v := vB true) rfl ?_
    exact k _ (h4.sub ((((List.Sublist.refl H).cons _).cons _).trans (List.sublist_append_right _ _)))
  refine sls_ln hps ?_
  rw [prows_len]
  repeat (first | refine pu_not ?_ | refine pu_eql ?_ | refine pu_neq ?_ | refine pu_lss ?_ | refine pu_leq ?_ | refine pu_gtr ?_ | refine pu_geq ?_ | refine pu_add ?_ | refine pu_sub ?_ | refine fa_at ?_ | refine nl_ptr ?_ | refine ex20 ?_ | refine ex21 ?_ | refine ex30 ?_ | refine ex31 ?_ | refine ex32 ?_ | refine ln_rule ?_ | refine pu_seq ?_ | refine pu_sne ?_)
  refine cnd (fun hq => wk [] _ h2) (fun hq => ?_)
  have hpl : ps.length ≤ 3 := by have := of_decide_eq_false hq; omega
  clear hq
  refine sl_ln ht ?_
  rw [List.length_map]
  repeat (first | refine pu_not ?_ | refine pu_eql ?_ | refine pu_neq ?_ | refine pu_lss ?_ | refine pu_leq ?_ | refine pu_gtr ?_ | refine pu_geq ?_ | refine pu_add ?_ | refine pu_sub ?_ | refine fa_at ?_ | refine nl_ptr ?_ | refine ex20 ?_ | refine ex21 ?_ | refine ex30 ?_ | refine ex31 ?_ | refine ex32 ?_ | refine ln_rule ?_ | refine pu_seq ?_ | refine pu_sne ?_)
  refine cnd (fun hq => wk [] _ h2) (fun hq => ?_)
  have htl : t.length ≤ 100 := by have := of_decide_eq_false hq; omega
  clear hq
  have mH : ∀ (Y : Hp) x, x ∈ H → x ∈ Y ++ (br, cel [vB false] T.t_bool) :: (bm, cel [vI many] T.t_int) :: H := fun Y x hx => List.mem_append_right _ (.tail _ (.tail _ hx))
  refine ⟨fun l' w => ∃ (i : Nat) (S : Hp) (u : Value) (xs : List Nat), l' = [u, vI i] ∧ i ≤ ps.length ∧ Wn S u xs ∧ Byt xs ∧ xs.length ≤ 110000 * i ∧ Ow B w (S ++ (br, cel [vB false] T.t_bool) :: (bm, cel [vI many] T.t_int) :: H),
    fun l' _ => match l' with | [_, .int _ q] => ps.length - q.toNat | _ => 0, ⟨0, [], nilS, [], rfl, Nat.zero_le _, wn_none, (fun x hx => by cases hx), Nat.zero_le _, h2⟩, ?_⟩
  clear h2 h1 h
  rintro l' w3 ⟨i, S, u, xs, rfl, hi, ho, hxb, hxl, h3⟩ j
  simp only [gv, List.getD_cons_zero, List.getD_cons_succ]
  refine sls_ln hps ?_
  rw [prows_len]
  repeat (first | refine pu_not ?_ | refine pu_eql ?_ | refine pu_neq ?_ | refine pu_lss ?_ | refine pu_leq ?_ | refine pu_gtr ?_ | refine pu_geq ?_ | refine pu_add ?_ | refine pu_sub ?_ | refine fa_at ?_ | refine nl_ptr ?_ | refine ex20 ?_ | refine ex21 ?_ | refine ex30 ?_ | refine ex31 ?_ | refine ex32 ?_ | refine ln_rule ?_ | refine pu_seq ?_ | refine pu_sne ?_)
  refine cnd (fun hlt => ?_) (fun hlt => ?_)
  · have hlt : i < ps.length := by simpa using hlt
    obtain ⟨⟨v, p⟩, hq⟩ : ∃ q, ps[i]? = some q := ⟨_, List.getElem?_eq_getElem hlt⟩
    have hrow : (prows ps)[(i : Int).toNat]? = some (p.cells v) := by rw [Int.toNat_natCast, prows, List.getElem?_map, hq]; rfl
    have hv : fsIn H v p.fs := hpf _ (List.mem_of_getElem? hq)
    refine sls_ld h3 (hps.mono (mH _)) (by omega) hrow ?_
    refine few_spec (p := p) hv (mH _) h3 (fun r w4 h4 hr => ?_)
    repeat (first | refine pu_not ?_ | refine pu_eql ?_ | refine pu_neq ?_ | refine pu_lss ?_ | refine pu_leq ?_ | refine pu_gtr ?_ | refine pu_geq ?_ | refine pu_add ?_ | refine pu_sub ?_ | refine fa_at ?_ | refine nl_ptr ?_ | refine ex20 ?_ | refine ex21 ?_ | refine ex30 ?_ | refine ex31 ?_ | refine ex32 ?_ | refine ln_rule ?_ | refine pu_seq ?_ | refine pu_sne ?_)
    refine cnd (fun hq => wk S _ h4) (fun hq => ?_)
    clear hq
    refine sls_fld (j := 0) (x := p.cells v) (v := v) h4 (hps.mono (mH _)) (by omega) hrow rfl ?_
    refine hv.ln ?_
    repeat (first | refine pu_not ?_ | refine pu_eql ?_ | refine pu_neq ?_ | refine pu_lss ?_ | refine pu_leq ?_ | refine pu_gtr ?_ | refine pu_geq ?_ | refine pu_add ?_ | refine pu_sub ?_ | refine fa_at ?_ | refine nl_ptr ?_ | refine ex20 ?_ | refine ex21 ?_ | refine ex30 ?_ | refine ex31 ?_ | refine ex32 ?_ | refine ln_rule ?_ | refine pu_seq ?_ | refine pu_sne ?_)
    refine cnd (fun hq => wk S _ h4) (fun hq => ?_)
    have h12 : p.fs.length ≤ 12 := by have := of_decide_eq_false hq; omega
    clear hq
    refine sls_ld h4 (hps.mono (mH _)) (by omega) hrow ?_
    refine rlen_spec (p := p) hv (mH _) h4 (fun r w5 h5 => ?_)
    repeat (first | refine pu_not ?_ | refine pu_eql ?_ | refine pu_neq ?_ | refine pu_lss ?_ | refine pu_leq ?_ | refine pu_gtr ?_ | refine pu_geq ?_ | refine pu_add ?_ | refine pu_sub ?_ | refine fa_at ?_ | refine nl_ptr ?_ | refine ex20 ?_ | refine ex21 ?_ | refine ex30 ?_ | refine ex31 ?_ | refine ex32 ?_ | refine ln_rule ?_ | refine pu_seq ?_ | refine pu_sne ?_)
    refine cnd (fun hq => wk S _ h5) (fun hq => ?_)
    clear hq
    refine sls_ld h5 (hps.mono (mH _)) (by omega) hrow ?_
    refine rencode_spec (p := p) hv (mH _) h5 (fun Sx o w6 h6 hox => ?_)
    have hel := encR_len h12
    repeat (first | refine pu_not ?_ | refine pu_eql ?_ | refine pu_neq ?_ | refine pu_lss ?_ | refine pu_leq ?_ | refine pu_gtr ?_ | refine pu_geq ?_ | refine pu_add ?_ | refine pu_sub ?_ | refine fa_at ?_ | refine nl_ptr ?_ | refine ex20 ?_ | refine ex21 ?_ | refine ex30 ?_ | refine ex31 ?_ | refine ex32 ?_ | refine ln_rule ?_ | refine pu_seq ?_ | refine pu_sne ?_)
    have h6 : Ow B w6 (S ++ (Sx ++ (br, cel [vB false] T.t_bool) :: (bm, cel [vI many] T.t_int) :: H)) := h6.perm (List.perm_append_comm_assoc Sx S _)
    refine sl_app h6 ho (Vc.Own.sl hox) (fun x hx => List.mem_append_right _ (List.mem_append_left _ hx)) (by omega) (fun S' u' w7 h7 ho7 => ?_)
    repeat (first | refine pu_not ?_ | refine pu_eql ?_ | refine pu_neq ?_ | refine pu_lss ?_ | refine pu_leq ?_ | refine pu_gtr ?_ | refine pu_geq ?_ | refine pu_add ?_ | refine pu_sub ?_ | refine fa_at ?_ | refine nl_ptr ?_ | refine ex20 ?_ | refine ex21 ?_ | refine ex30 ?_ | refine ex31 ?_ | refine ex32 ?_ | refine ln_rule ?_ | refine pu_seq ?_ | refine pu_sne ?_)
    rw [wrapN (by omega)]
    refine ⟨⟨i + 1, S', u', xs ++ (encR p).1, rfl, hlt, ho7, byt_app hxb (encR_byt p), by rw [List.length_append]; omega, h7.sub ((List.Sublist.refl S').append (List.sublist_append_right Sx _))⟩, by simp; omega⟩
  · obtain rfl : i = ps.length := by simp at hlt; omega
    refine sl_app h3 ho ht (fun x hx => mH _ x hx) (by omega) (fun Sb c w4 h4 hob => ?_)
    have hLb : Byt (xs ++ t) := byt_app hxb htb
    have hLl : (xs ++ t).length ≤ 330100 := by rw [List.length_append]; omega
    generalize xs ++ t = L at hob hLb hLl
    clear hlt hxl hxb ho h3 hi
    have hE8 := eachL_bound (l := L) (L.length + 1) 0 (Nat.zero_le _)
    generalize hE : eachL L (L.length + 1) 0 = E at hE8
    generalize hb3 : Sb ++ (br, cel [vB false] T.t_bool) :: (bm, cel [vI many] T.t_int) :: H = base at h4
    have hcb : Sl base c (bv L) := (Vc.Own.sl hob).mono fun x hx => by rw [← hb3]; exact List.mem_append_left _ hx
    refine al_rule h4 (l := [nilS]) (by kernel_rfl) (fun ba w5 h5 => ?_)
    refine al_rule h5 (l := [nilS]) (by kernel_rfl) (fun bw w6 h6 => ?_)
    refine ⟨fun l' w => ∃ (a k f : Nat) (S1 S2 F : Hp) (u1 u2 : Value) (qs : List (Value × Pr)), l' = [vI a] ∧ a ≤ L.length ∧ L.length - a < f ∧ E.drop k = eachL L f a ∧ k ≤ E.length ∧ Laid E k S1 S2 F u1 u2 qs ∧
        Ow B w ((bw, cel [u2] T.t_sl_api_Program) :: (ba, cel [u1] T.t_sl_int) :: (S1 ++ (S2 ++ (F ++ base)))),
      fun l' _ => match l' with | [.int _ q] => L.length + 1 - q.toNat | _ => 0, ⟨0, 0, L.length + 1, [], [], [], nilS, nilS, [], rfl, Nat.zero_le _, by omega, by rw [List.drop_zero, hE], Nat.zero_le _, laid_none _, h6⟩, ?_⟩
    clear h6 h5 h4
    rintro l' w7 ⟨a, kk, f, S1, S2, F, u1, u2, qs, rfl, ha, hf, hd, hkE, hL, h7⟩ j
    simp only [gv, List.getD_cons_zero, List.getD_cons_succ]
    have mB : ∀ x, x ∈ base → x ∈ (bw, cel [u2] T.t_sl_api_Program) :: (ba, cel [u1] T.t_sl_int) :: (S1 ++ (S2 ++ (F ++ base))) := fun x hx => .tail _ (.tail _ (List.mem_append_right _ (List.mem_append_right _ (List.mem_append_right _ hx))))
    refine sl_ln hcb ?_
    rw [List.length_map]
    repeat (first | refine pu_not ?_ | refine pu_eql ?_ | refine pu_neq ?_ | refine pu_lss ?_ | refine pu_leq ?_ | refine pu_gtr ?_ | refine pu_geq ?_ | refine pu_add ?_ | refine pu_sub ?_ | refine fa_at ?_ | refine nl_ptr ?_ | refine ex20 ?_ | refine ex21 ?_ | refine ex30 ?_ | refine ex31 ?_ | refine ex32 ?_ | refine ln_rule ?_ | refine pu_seq ?_ | refine pu_sne ?_)
    refine cnd_t (by simp; omega) ?_
    have hbl : (bv L).length = L.length := by simp
    refine cutL hcb (by omega) (by rw [hbl]; omega) (fun cc hcc => ?_)
    have hcut := sl_cut (l := a) (h := L.length) (m := cc) hcb ha (by simp) (by simpa using hcc)
    rw [bv_drop] at hcut
    rw [Int.toNat_natCast, hbl]
    refine reffirst_spec hcut mB (byt_drop hLb a) (by rw [List.length_drop]; omega) h7 (fun F' v n w8 hF him hn h8 => ?_)
    obtain ⟨f, rfl⟩ : ∃ g, f = g + 1 := ⟨f - 1, by omega⟩
    unfold eachL at hd
    have hfle := @first_le (L.drop a)
    rw [List.length_drop] at hfle
    obtain ⟨a1, a2, a3, hv⟩ := cp_sl hF
    have hvp : plainV v = true := by rw [hv]; rfl
    generalize firstR (L.drop a) = r at *
    obtain ⟨p, n', e⟩ := r
    simp only at hd hF him hn hfle ⊢
    repeat (first | refine pu_not ?_ | refine pu_eql ?_ | refine pu_neq ?_ | refine pu_lss ?_ | refine pu_leq ?_ | refine pu_gtr ?_ | refine pu_geq ?_ | refine pu_add ?_ | refine pu_sub ?_ | refine fa_at ?_ | refine nl_ptr ?_ | refine ex20 ?_ | refine ex21 ?_ | refine ex30 ?_ | refine ex31 ?_ | refine ex32 ?_ | refine ln_rule ?_ | refine pu_seq ?_ | refine pu_sne ?_)
    refine al_rule h8 (l := p0.cells nilS) (by kernel_rfl) (fun b102 w9 h9 => ?_)
    refine st_here (A := []) h9 (p.cells v) rfl rfl (cells_plain _ hvp) (by simp [Pr.cells]) (fun w10 h10 => ?_)
    have h10 : Ow B w10 ((b102, pgO p v) :: (bw, cel [u2] T.t_sl_api_Program) :: (ba, cel [u1] T.t_sl_int) :: (S1 ++ (S2 ++ ((F' ++ F) ++ base)))) := by
      have h10 : Ow B w10 ((b102, pgO p v) :: (F' ++ ((bw, cel [u2] T.t_sl_api_Program) :: (ba, cel [u1] T.t_sl_int) :: (S1 ++ (S2 ++ (F ++ base)))))) := h10
      have q' : (F' ++ ((bw, cel [u2] T.t_sl_api_Program) :: (ba, cel [u1] T.t_sl_int) :: (S1 ++ (S2 ++ (F ++ base))))).Perm ((bw, cel [u2] T.t_sl_api_Program) :: (ba, cel [u1] T.t_sl_int) :: (S1 ++ (S2 ++ ((F' ++ F) ++ base)))) := by
        have q := List.perm_append_comm_assoc F' ((bw, cel [u2] T.t_sl_api_Program) :: (ba, cel [u1] T.t_sl_int) :: (S1 ++ S2)) (F ++ base)
        simpa using q
      exact h10.perm (q'.cons _)
    have hFF : fsIn (F' ++ F) v p.fs := (hF.ins him).mono fun x hx => List.mem_append_left _ hx
    repeat (first | refine pu_not ?_ | refine pu_eql ?_ | refine pu_neq ?_ | refine pu_lss ?_ | refine pu_leq ?_ | refine pu_gtr ?_ | refine pu_geq ?_ | refine pu_add ?_ | refine pu_sub ?_ | refine fa_at ?_ | refine nl_ptr ?_ | refine ex20 ?_ | refine ex21 ?_ | refine ex30 ?_ | refine ex31 ?_ | refine ex32 ?_ | refine ln_rule ?_ | refine pu_seq ?_ | refine pu_sne ?_)
    clear h7 h8 h9
    have hL' : Laid E kk S1 S2 (F' ++ F) u1 u2 qs := ⟨hL.o1, hL.o2, hL.n, hL.p, fun q hq => (hL.f q hq).mono fun x hx => List.mem_append_right _ hx⟩
    generalize hGF : F' ++ F = FF at hFF hL' h10
    refine cnd (fun hq => ?_) (fun hq => ?_)
    · -- the programs end here
      have hq : ¬ e = 0 := by simpa using hq
      rw [if_neg hq] at hd
      obtain rfl : kk = E.length := by
        have := congrArg List.length hd
        rw [List.length_drop] at this
        simp at this; omega
      have ho1 := hL'.o1
      rw [List.take_length] at ho1
      have hqp : qs.map Prod.snd = E.map Prod.snd := by have := hL'.p; rwa [List.take_length] at this
      have hwant : Sls S2 u2 4 (prows qs) := own_sls (prows_four qs) (by rw [prows_len, hL'.n]; exact hL'.o2)
      refine ieach_spec hcb (fun x hx => .tail _ (.tail _ (.tail _ (List.mem_append_right _ (List.mem_append_right _ (List.mem_append_right _ hx)))))) (by omega) h10 (fun bs S4 s' w11 h11 hs' => ?_)
      refine pu_fnl (by kernel_rfl) ?_
      refine cnd_f rfl ?_
      refine al_rule h11 (l := [vI 0]) (by kernel_rfl) (fun bt w12 h12 => ?_)
      refine st1_here (A := []) h12 rfl rfl (by simp) (fun w13 h13 => ?_)
      have h13 : Ow B w13 ((bt, cel [vI 0] T.t_int) :: ((bs, cel [s'] T.t_sl_uint8) :: (S4 ++ ((b102, pgO p v) :: (bw, cel [u2] T.t_sl_api_Program) :: (ba, cel [u1] T.t_sl_int) :: (S1 ++ (S2 ++ (FF ++ base))))))) := h13
      have dB : ∀ x, x ∈ (b102, pgO p v) :: (bw, cel [u2] T.t_sl_api_Program) :: (ba, cel [u1] T.t_sl_int) :: (S1 ++ (S2 ++ (FF ++ base))) → x ∈ (bs, cel [s'] T.t_sl_uint8) :: (S4 ++ ((b102, pgO p v) :: (bw, cel [u2] T.t_sl_api_Program) :: (ba, cel [u1] T.t_sl_int) :: (S1 ++ (S2 ++ (FF ++ base))))) := fun x hx => .tail _ (List.mem_append_right _ hx)
      have hbr : (br, cel [vB false] T.t_bool) ∈ base ∧ (bm, cel [vI many] T.t_int) ∈ base := by rw [← hb3]; exact ⟨List.mem_append_right _ (.head _), List.mem_append_right _ (.tail _ (.head _))⟩
      generalize hD : ((bs, cel [s'] T.t_sl_uint8) :: (S4 ++ ((b102, pgO p v) :: (bw, cel [u2] T.t_sl_api_Program) :: (ba, cel [u1] T.t_sl_int) :: (S1 ++ (S2 ++ (FF ++ base)))))) = D0 at h13 dB
      have mS0 : (bs, cel [s'] T.t_sl_uint8) ∈ D0 := by rw [← hD]; exact .head _
      have mV0 : ∀ x, x ∈ S4 → x ∈ D0 := by rw [← hD]; exact fun x hx => .tail _ (List.mem_append_left _ hx)
      have mW0 : (bw, cel [u2] T.t_sl_api_Program) ∈ D0 := dB _ (.tail _ (.head _))
      have mA0 : (ba, cel [u1] T.t_sl_int) ∈ D0 := dB _ (.tail _ (.tail _ (.head _)))
      have mO1 : ∀ x, x ∈ S1 → x ∈ D0 := fun x hx => dB _ (.tail _ (.tail _ (.tail _ (List.mem_append_left _ hx))))
      have mO2 : ∀ x, x ∈ S2 → x ∈ D0 := fun x hx => dB _ (.tail _ (.tail _ (.tail _ (List.mem_append_right _ (List.mem_append_left _ hx)))))
      have mO3 : ∀ x, x ∈ FF → x ∈ D0 := fun x hx => dB _ (.tail _ (.tail _ (.tail _ (List.mem_append_right _ (List.mem_append_right _ (List.mem_append_left _ hx))))))
      have mBs : ∀ x, x ∈ base → x ∈ D0 := fun x hx => dB _ (.tail _ (.tail _ (.tail _ (List.mem_append_right _ (List.mem_append_right _ (List.mem_append_right _ hx))))))
      have mM0 : (bm, cel [vI many] T.t_int) ∈ D0 := mBs _ hbr.2
      have hqn : qs.length = E.length := hL'.n
      have hEl : E.length < 2 ^ 62 := by omega
      have hat1 : Sl S1 u1 (atsV E) := Vc.Own.sl ho1
      refine ⟨fun l' d w => ∃ (bt : Nat) (t : Nat) (ms : List Nat), l' = [ptr bt] ∧ d = mkD ms ∧ ms.length = t ∧ t ≤ 2 ∧ Ow B w ((bt, cel [vI t] T.t_int) :: (mkB ms ++ D0)), fun l d w => 2 - d.length,
        ⟨bt, 0, [], rfl, rfl, rfl, by omega, h13⟩, ?_⟩
      clear h13 h12 h11 h10
      rintro l' d w8 ⟨bt, t, ms, rfl, rfl, hms, ht, h8⟩ j0
      refine ld_here h8 (.head _) rfl ?_
      repeat (first | refine pu_not ?_ | refine pu_eql ?_ | refine pu_neq ?_ | refine pu_lss ?_ | refine pu_leq ?_ | refine pu_gtr ?_ | refine pu_geq ?_ | refine pu_add ?_ | refine pu_sub ?_ | refine fa_at ?_ | refine nl_ptr ?_ | refine ex20 ?_ | refine ex21 ?_ | refine ex30 ?_ | refine ex31 ?_ | refine ex32 ?_ | refine ln_rule ?_ | refine pu_seq ?_ | refine pu_sne ?_)
      refine cnd (fun hlt2 => ?_) (fun hlt2 => ?_)
      · have hlt2 : t < 2 := by simp at hlt2; omega
        refine al_rule h8 (l := [vI 0]) (by kernel_rfl) (fun bk w9 h9 => ?_)
        refine st1_here (A := []) h9 rfl rfl (by simp) (fun w10 h10 => ?_)
        have hseq := each1_seq (B := B) (H := (bt, cel [vI t] T.t_int) :: (mkB ms ++ D0)) (b := bs) (s := s') (l := L) (.tail _ (List.mem_append_right _ mS0)) (hs'.mono fun x hx => .tail _ (List.mem_append_right _ (mV0 x hx))) hLb (by omega)
        rw [hE] at hseq
        refine range_fnX (X := [(bk, cel [vI 0] T.t_int)]) (H := (bt, cel [vI t] T.t_int) :: (mkB ms ++ D0)) (A := linesmanlaw10_ImageEach.note) (fuel := 400) mixed hseq evT_mono (by simp) (fun i args F ⟨a, p, v, e, _⟩ => by rw [e]; rfl) h10
          (fun i Y => Y = [(bk, cel [vI i] T.t_int)] ∧ i ≤ E.length ∧ (t = 0 → i = 0 ∨ (i : Int) < many))
          (fun j Y => j = .exit 6 ∧ ∃ i : Nat, Y = [(bk, cel [vI i] T.t_int)] ∧ 1 ≤ i ∧ i ≤ E.length ∧ t = 0 ∧ many ≤ i ∧ (i = 1 ∨ (i : Int) - 1 < many)) ⟨rfl, by omega, fun _ => .inl rfl⟩ ?_ ?_ ?_
        · rintro lp r n args Y F R w4 hnE ⟨a', p', v', rfl, hat', hfs'⟩ ⟨rfl, hn, hnm⟩ hF h4 k1 k2 u
          refine Eq.mpr (linesmanlaw10_ImageEach.Rd0_eq lp R _ _ _ _ _ _ _ _ w4 u) ?_
          unfold linesmanlaw10_ImageEach.Rd0
          refine al_rule h4 (l := p0.cells nilS) (by kernel_rfl) (fun bx w5 h5 => ?_)
          refine st_here (A := []) h5 (p'.cells v') rfl rfl (cells_plain _ hfs'.plain) (by simp [Pr.cells]) (fun w6 h6 => ?_)
          have h6 : Ow B w6 ((bx, pgO p' v') :: (lp, recR r) :: ([(bk, cel [vI n] T.t_int)] ++ F)) := h6
          have h6 : Ow B w6 ((lp, recR r) :: (bx, pgO p' v') :: (bk, cel [vI n] T.t_int) :: F) := h6.perm (.swap _ _ _)
          refine rbeg h6 (fun w7 h7 => ?_)
          have gD : ∀ x, x ∈ D0 → x ∈ F := fun x hx => hF _ (.tail _ (List.mem_append_right _ hx))
          have mT : (bt, cel [vI t] T.t_int) ∈ F := hF _ (.head _)
          have gF : ∀ x, x ∈ F → x ∈ (lp, recB r) :: (bx, pgO p' v') :: (bk, cel [vI n] T.t_int) :: F := fun x hx => .tail _ (.tail _ (.tail _ hx))
          refine ⟨fun w => Ow B w ((lp, recB r) :: (bx, pgO p' v') :: (bk, cel [vI n] T.t_int) :: F), h7.drew, ?_⟩
          refine lds_here (fun w h => h) (.tail _ (.tail _ (.head _))) (v := vI n) rfl ?_
          refine lds_here (fun w h => h) (gF _ (gD _ mW0)) (v := u2) rfl ?_
          refine sls_ln hwant ?_
          rw [prows_len, hqn]
          repeat (first | refine pu_not ?_ | refine pu_eql ?_ | refine pu_neq ?_ | refine pu_lss ?_ | refine pu_leq ?_ | refine pu_gtr ?_ | refine pu_geq ?_ | refine pu_add ?_ | refine pu_sub ?_ | refine fa_at ?_ | refine nl_ptr ?_ | refine ex20 ?_ | refine ex21 ?_ | refine ex30 ?_ | refine ex31 ?_ | refine ex32 ?_ | refine ln_rule ?_ | refine pu_seq ?_ | refine pu_sne ?_)
          refine cnd_f (by simp; omega) ?_
          refine lds_here (fun w h => h) (gF _ (gD _ mA0)) (v := u1) rfl ?_
          refine lds_here (fun w h => h) (.tail _ (.tail _ (.head _))) (v := vI n) rfl ?_
          have hatn : (atsV E)[(n : Int).toNat]? = some (vI (a' : Nat)) := by rw [Int.toNat_natCast, atsV, List.getElem?_map, hat']; rfl
          refine sl_lds (fun w h => h) (hat1.mono fun x hx => gF _ (gD _ (mO1 x hx))) (by omega) hatn ?_
          repeat (first | refine pu_not ?_ | refine pu_eql ?_ | refine pu_neq ?_ | refine pu_lss ?_ | refine pu_leq ?_ | refine pu_gtr ?_ | refine pu_geq ?_ | refine pu_add ?_ | refine pu_sub ?_ | refine fa_at ?_ | refine nl_ptr ?_ | refine ex20 ?_ | refine ex21 ?_ | refine ex30 ?_ | refine ex31 ?_ | refine ex32 ?_ | refine ln_rule ?_ | refine pu_seq ?_ | refine pu_sne ?_)
          refine cnd_f (by simp) ?_
          refine ldsn_here (fun w h => h) (.tail _ (.head _)) (vs := p'.cells v') rfl rfl ?_
          refine lds_here (fun w h => h) (gF _ (gD _ mW0)) (v := u2) rfl ?_
          refine lds_here (fun w h => h) (.tail _ (.tail _ (.head _))) (v := vI n) rfl ?_
          obtain ⟨⟨vq, pq⟩, hqs⟩ : ∃ q, qs[n]? = some q := ⟨_, List.getElem?_eq_getElem (by omega)⟩
          have hpq : pq = p' := by
            have h1 : (qs.map Prod.snd)[n]? = some pq := by rw [List.getElem?_map, hqs]; rfl
            rw [hqp, List.getElem?_map, hat'] at h1
            exact (Option.some.inj h1).symm
          subst hpq
          have hrq : (prows qs)[(n : Int).toNat]? = some (pq.cells vq) := by rw [Int.toNat_natCast, prows, List.getElem?_map, hqs]; rfl
          have hvq := hL'.f _ (List.mem_of_getElem? hqs)
          refine sls_lds (fun w h => h) (hwant.mono fun x hx => gF _ (gD _ (mO2 x hx))) (by omega) hrq ?_
          refine refSame_spec (p := pq) (q := pq) (X := (lp, recB r) :: (bx, pgO pq v') :: (bk, cel [vI n] T.t_int) :: F) (hfs'.mono gF) (hvq.mono fun x hx => gF _ (gD _ (mO3 x hx))) (fun x hx => hx) h7.drew (fun w8 h8 => ?_)
          refine ⟨h8, ?_⟩
          repeat (first | refine pu_not ?_ | refine pu_eql ?_ | refine pu_neq ?_ | refine pu_lss ?_ | refine pu_leq ?_ | refine pu_gtr ?_ | refine pu_geq ?_ | refine pu_add ?_ | refine pu_sub ?_ | refine fa_at ?_ | refine nl_ptr ?_ | refine ex20 ?_ | refine ex21 ?_ | refine ex30 ?_ | refine ex31 ?_ | refine ex32 ?_ | refine ln_rule ?_ | refine pu_seq ?_ | refine pu_sne ?_)
          refine cnd_f (by simp) ?_
          refine ld_here h8 (.tail _ (.tail _ (.head _))) (v := vI n) rfl ?_
          repeat (first | refine pu_not ?_ | refine pu_eql ?_ | refine pu_neq ?_ | refine pu_lss ?_ | refine pu_leq ?_ | refine pu_gtr ?_ | refine pu_geq ?_ | refine pu_add ?_ | refine pu_sub ?_ | refine fa_at ?_ | refine nl_ptr ?_ | refine ex20 ?_ | refine ex21 ?_ | refine ex30 ?_ | refine ex31 ?_ | refine ex32 ?_ | refine ln_rule ?_ | refine pu_seq ?_ | refine pu_sne ?_)
          rw [wrapN (by omega)]
          refine st1_here (A := [(lp, recB r), (bx, pgO pq v')]) h8 rfl rfl (by simp) (fun w9 h9 => ?_)
          have h9 : Ow B w9 ((lp, recB r) :: (bx, pgO pq v') :: (bk, cel [vI (n + 1 : Nat)] T.t_int) :: F) := h9
          have h9 : Ow B w9 ((lp, recB r) :: ([(bk, cel [vI (n + 1 : Nat)] T.t_int)] ++ F)) := h9.sub (.cons_cons _ (.cons _ (.refl _)))
          have gG : ∀ x, x ∈ F → x ∈ (lp, recB r) :: ([(bk, cel [vI (n + 1 : Nat)] T.t_int)] ++ F) := fun x hx => .tail _ (.tail _ hx)
          refine ld_here h9 (gG _ mT) (v := vI t) rfl ?_
          repeat (first | refine pu_not ?_ | refine pu_eql ?_ | refine pu_neq ?_ | refine pu_lss ?_ | refine pu_leq ?_ | refine pu_gtr ?_ | refine pu_geq ?_ | refine pu_add ?_ | refine pu_sub ?_ | refine fa_at ?_ | refine nl_ptr ?_ | refine ex20 ?_ | refine ex21 ?_ | refine ex30 ?_ | refine ex31 ?_ | refine ex32 ?_ | refine ln_rule ?_ | refine pu_seq ?_ | refine pu_sne ?_)
          refine cnd (fun ht0 => ?_) (fun ht0 => ?_)
          · have ht0 : t = 0 := by simp at ht0; omega
            refine ld_here h9 (.tail _ (.head _)) (v := vI (n + 1 : Nat)) rfl ?_
            refine ld_here h9 (gG _ (gD _ mM0)) (v := vI many) rfl ?_
            repeat (first | refine pu_not ?_ | refine pu_eql ?_ | refine pu_neq ?_ | refine pu_lss ?_ | refine pu_leq ?_ | refine pu_gtr ?_ | refine pu_geq ?_ | refine pu_add ?_ | refine pu_sub ?_ | refine fa_at ?_ | refine nl_ptr ?_ | refine ex20 ?_ | refine ex21 ?_ | refine ex30 ?_ | refine ex31 ?_ | refine ex32 ?_ | refine ln_rule ?_ | refine pu_seq ?_ | refine pu_sne ?_)
            refine cnd (fun hge => ?_) (fun hge => ?_)
            · have hge : many ≤ ((n + 1 : Nat) : Int) := by have := of_decide_eq_true hge; omega
              refine rend_stop h9 (fun w10 h10 => k2 _ _ w10 ⟨rfl, n + 1, rfl, by omega, by omega, ht0, hge, ?_⟩ h10)
              rcases hnm ht0 with h0 | h0
              · left; omega
              · right; omega
            · have hge : ¬ many ≤ ((n + 1 : Nat) : Int) := by have := of_decide_eq_false hge; omega
              exact rend_go h9 (fun w10 h10 => k1 _ w10 ⟨rfl, by omega, fun _ => .inr (by omega)⟩ h10)
          · have ht0 : ¬ t = 0 := by simp at ht0; omega
            exact rend_go h9 (fun w10 h10 => k1 _ w10 ⟨rfl, by omega, fun h => absurd h ht0⟩ h10)
        · rintro mk Y w9 ⟨rfl, hn, hnm⟩ h9
          have hv0 : t = 0 → ((E.length : Nat) : Int) = if (if many > 1 then many else 1) < ((E.length : Nat) : Int) then (if many > 1 then many else 1) else ((E.length : Nat) : Int) := fun h0 => by
            have := hnm h0
            split <;> split at * <;> omega
          have hv1 : t = 1 → ((E.length : Nat) : Int) = ((E.length : Nat) : Int) := fun _ => rfl
          refine ld_here h9 (.tail _ (.tail _ (.head _))) rfl ?_
          repeat (first | refine pu_not ?_ | refine pu_eql ?_ | refine pu_neq ?_ | refine pu_lss ?_ | refine pu_leq ?_ | refine pu_gtr ?_ | refine pu_geq ?_ | refine pu_add ?_ | refine pu_sub ?_ | refine fa_at ?_ | refine nl_ptr ?_ | refine ex20 ?_ | refine ex21 ?_ | refine ex30 ?_ | refine ex31 ?_ | refine ex32 ?_ | refine ln_rule ?_ | refine pu_seq ?_ | refine pu_sne ?_)
          refine cnd (fun ht0 => ?_) (fun ht0 => ?_)
          · have ht0 : t = 0 := by simp at ht0; omega
            refine ld_here h9 (.tail _ (.head _)) rfl ?_
            refine ld_here h9 (.tail _ (.tail _ (.tail _ (List.mem_append_right _ mW0)))) rfl ?_
            refine sls_ln hwant ?_
            rw [prows_len, hqn]
            repeat (first | refine pu_not ?_ | refine pu_eql ?_ | refine pu_neq ?_ | refine pu_lss ?_ | refine pu_leq ?_ | refine pu_gtr ?_ | refine pu_geq ?_ | refine pu_add ?_ | refine pu_sub ?_ | refine fa_at ?_ | refine nl_ptr ?_ | refine ex20 ?_ | refine ex21 ?_ | refine ex30 ?_ | refine ex31 ?_ | refine ex32 ?_ | refine ln_rule ?_ | refine pu_seq ?_ | refine pu_sne ?_)
            refine ld_here h9 (.tail _ (.tail _ (.tail _ (List.mem_append_right _ mM0)))) rfl ?_
            refine pu_max2 ?_
            refine pu_min2 ?_
            repeat (first | refine pu_not ?_ | refine pu_eql ?_ | refine pu_neq ?_ | refine pu_lss ?_ | refine pu_leq ?_ | refine pu_gtr ?_ | refine pu_geq ?_ | refine pu_add ?_ | refine pu_sub ?_ | refine fa_at ?_ | refine nl_ptr ?_ | refine ex20 ?_ | refine ex21 ?_ | refine ex30 ?_ | refine ex31 ?_ | refine ex32 ?_ | refine ln_rule ?_ | refine pu_seq ?_ | refine pu_sne ?_)
            refine cnd_f ?_ ?_
            · have := hv0 ht0
              simp only [bne_eq_false_iff_eq]
              split <;> split at this <;> split at * <;> omega
            refine ld_here h9 (.tail _ (.tail _ (.head _))) rfl ?_
            repeat (first | refine pu_not ?_ | refine pu_eql ?_ | refine pu_neq ?_ | refine pu_lss ?_ | refine pu_leq ?_ | refine pu_gtr ?_ | refine pu_geq ?_ | refine pu_add ?_ | refine pu_sub ?_ | refine fa_at ?_ | refine nl_ptr ?_ | refine ex20 ?_ | refine ex21 ?_ | refine ex30 ?_ | refine ex31 ?_ | refine ex32 ?_ | refine ln_rule ?_ | refine pu_seq ?_ | refine pu_sne ?_)
            refine cnd_f (by simp; omega) ?_
            refine ld_here h9 (.tail _ (.tail _ (.head _))) rfl ?_
            refine al_rule h9 (l := [vI 0]) (by kernel_rfl) (fun bt' w10 h10 => ?_)
            refine st1_here (A := []) h10 rfl rfl (by simp) (fun w11 h11 => ?_)
            refine ld_here h11 (.head _) rfl ?_
            repeat (first | refine pu_not ?_ | refine pu_eql ?_ | refine pu_neq ?_ | refine pu_lss ?_ | refine pu_leq ?_ | refine pu_gtr ?_ | refine pu_geq ?_ | refine pu_add ?_ | refine pu_sub ?_ | refine fa_at ?_ | refine nl_ptr ?_ | refine ex20 ?_ | refine ex21 ?_ | refine ex30 ?_ | refine ex31 ?_ | refine ex32 ?_ | refine ln_rule ?_ | refine pu_seq ?_ | refine pu_sne ?_)
            rw [wrap64_in (by omega) (by omega)]
            refine st1_here (A := []) h11 rfl rfl (by simp) (fun w12 h12 => ?_)
            exact ⟨⟨bt', t + 1, mk :: ms, rfl, rfl, by simp; omega, by omega, h12.sub (.cons_cons _ (.cons_cons _ (.cons _ (.cons _ (.refl _)))))⟩, by simp [mkD]; omega⟩
          · have ht0 : t = 1 := by simp at ht0; omega
            refine ld_here h9 (.tail _ (.tail _ (.head _))) rfl ?_
            repeat (first | refine pu_not ?_ | refine pu_eql ?_ | refine pu_neq ?_ | refine pu_lss ?_ | refine pu_leq ?_ | refine pu_gtr ?_ | refine pu_geq ?_ | refine pu_add ?_ | refine pu_sub ?_ | refine fa_at ?_ | refine nl_ptr ?_ | refine ex20 ?_ | refine ex21 ?_ | refine ex30 ?_ | refine ex31 ?_ | refine ex32 ?_ | refine ln_rule ?_ | refine pu_seq ?_ | refine pu_sne ?_)
            refine cnd_t (by simp; omega) ?_
            refine ld_here h9 (.tail _ (.head _)) rfl ?_
            refine ld_here h9 (.tail _ (.tail _ (.tail _ (List.mem_append_right _ mW0)))) rfl ?_
            refine sls_ln hwant ?_
            rw [prows_len, hqn]
            repeat (first | refine pu_not ?_ | refine pu_eql ?_ | refine pu_neq ?_ | refine pu_lss ?_ | refine pu_leq ?_ | refine pu_gtr ?_ | refine pu_geq ?_ | refine pu_add ?_ | refine pu_sub ?_ | refine fa_at ?_ | refine nl_ptr ?_ | refine ex20 ?_ | refine ex21 ?_ | refine ex30 ?_ | refine ex31 ?_ | refine ex32 ?_ | refine ln_rule ?_ | refine pu_seq ?_ | refine pu_sne ?_)
            refine cnd_f (by have := hv1 ht0; simp <;> omega) ?_
            refine ld_here h9 (.tail _ (.tail _ (.head _))) rfl ?_
            refine al_rule h9 (l := [vI 0]) (by kernel_rfl) (fun bt' w10 h10 => ?_)
            refine st1_here (A := []) h10 rfl rfl (by simp) (fun w11 h11 => ?_)
            refine ld_here h11 (.head _) rfl ?_
            repeat (first | refine pu_not ?_ | refine pu_eql ?_ | refine pu_neq ?_ | refine pu_lss ?_ | refine pu_leq ?_ | refine pu_gtr ?_ | refine pu_geq ?_ | refine pu_add ?_ | refine pu_sub ?_ | refine fa_at ?_ | refine nl_ptr ?_ | refine ex20 ?_ | refine ex21 ?_ | refine ex30 ?_ | refine ex31 ?_ | refine ex32 ?_ | refine ln_rule ?_ | refine pu_seq ?_ | refine pu_sne ?_)
            rw [wrap64_in (by omega) (by omega)]
            refine st1_here (A := []) h11 rfl rfl (by simp) (fun w12 h12 => ?_)
            exact ⟨⟨bt', t + 1, mk :: ms, rfl, rfl, by simp; omega, by omega, h12.sub (.cons_cons _ (.cons_cons _ (.cons _ (.cons _ (.refl _)))))⟩, by simp [mkD]; omega⟩
        · rintro mk j Y w9 ⟨rfl, i, rfl, hi1, hi2, ht, hmi, hi⟩ h9
          have hv0 : t = 0 → (i : Int) = if (if many > 1 then many else 1) < ((E.length : Nat) : Int) then (if many > 1 then many else 1) else ((E.length : Nat) : Int) := fun h0 => by
            split <;> split at * <;> omega
          have hv1 : t = 1 → (i : Int) = ((E.length : Nat) : Int) := fun h1 => by omega
          refine ld_here h9 (.tail _ (.tail _ (.head _))) rfl ?_
          repeat (first | refine pu_not ?_ | refine pu_eql ?_ | refine pu_neq ?_ | refine pu_lss ?_ | refine pu_leq ?_ | refine pu_gtr ?_ | refine pu_geq ?_ | refine pu_add ?_ | refine pu_sub ?_ | refine fa_at ?_ | refine nl_ptr ?_ | refine ex20 ?_ | refine ex21 ?_ | refine ex30 ?_ | refine ex31 ?_ | refine ex32 ?_ | refine ln_rule ?_ | refine pu_seq ?_ | refine pu_sne ?_)
          refine cnd (fun ht0 => ?_) (fun ht0 => ?_)
          · have ht0 : t = 0 := by simp at ht0; omega
            refine ld_here h9 (.tail _ (.head _)) rfl ?_
            refine ld_here h9 (.tail _ (.tail _ (.tail _ (List.mem_append_right _ mW0)))) rfl ?_
            refine sls_ln hwant ?_
            rw [prows_len, hqn]
            repeat (first | refine pu_not ?_ | refine pu_eql ?_ | refine pu_neq ?_ | refine pu_lss ?_ | refine pu_leq ?_ | refine pu_gtr ?_ | refine pu_geq ?_ | refine pu_add ?_ | refine pu_sub ?_ | refine fa_at ?_ | refine nl_ptr ?_ | refine ex20 ?_ | refine ex21 ?_ | refine ex30 ?_ | refine ex31 ?_ | refine ex32 ?_ | refine ln_rule ?_ | refine pu_seq ?_ | refine pu_sne ?_)
            refine ld_here h9 (.tail _ (.tail _ (.tail _ (List.mem_append_right _ mM0)))) rfl ?_
            refine pu_max2 ?_
            refine pu_min2 ?_
            repeat (first | refine pu_not ?_ | refine pu_eql ?_ | refine pu_neq ?_ | refine pu_lss ?_ | refine pu_leq ?_ | refine pu_gtr ?_ | refine pu_geq ?_ | refine pu_add ?_ | refine pu_sub ?_ | refine fa_at ?_ | refine nl_ptr ?_ | refine ex20 ?_ | refine ex21 ?_ | refine ex30 ?_ | refine ex31 ?_ | refine ex32 ?_ | refine ln_rule ?_ | refine pu_seq ?_ | refine pu_sne ?_)
            refine cnd_f ?_ ?_
            · have := hv0 ht0
              simp only [bne_eq_false_iff_eq]
              split <;> split at this <;> split at * <;> omega
            refine ld_here h9 (.tail _ (.tail _ (.head _))) rfl ?_
            repeat (first | refine pu_not ?_ | refine pu_eql ?_ | refine pu_neq ?_ | refine pu_lss ?_ | refine pu_leq ?_ | refine pu_gtr ?_ | refine pu_geq ?_ | refine pu_add ?_ | refine pu_sub ?_ | refine fa_at ?_ | refine nl_ptr ?_ | refine ex20 ?_ | refine ex21 ?_ | refine ex30 ?_ | refine ex31 ?_ | refine ex32 ?_ | refine ln_rule ?_ | refine pu_seq ?_ | refine pu_sne ?_)
            refine cnd_f (by simp; omega) ?_
            refine ld_here h9 (.tail _ (.tail _ (.head _))) rfl ?_
            refine al_rule h9 (l := [vI 0]) (by kernel_rfl) (fun bt' w10 h10 => ?_)
            refine st1_here (A := []) h10 rfl rfl (by simp) (fun w11 h11 => ?_)
            refine ld_here h11 (.head _) rfl ?_
            repeat (first | refine pu_not ?_ | refine pu_eql ?_ | refine pu_neq ?_ | refine pu_lss ?_ | refine pu_leq ?_ | refine pu_gtr ?_ | refine pu_geq ?_ | refine pu_add ?_ | refine pu_sub ?_ | refine fa_at ?_ | refine nl_ptr ?_ | refine ex20 ?_ | refine ex21 ?_ | refine ex30 ?_ | refine ex31 ?_ | refine ex32 ?_ | refine ln_rule ?_ | refine pu_seq ?_ | refine pu_sne ?_)
            rw [wrap64_in (by omega) (by omega)]
            refine st1_here (A := []) h11 rfl rfl (by simp) (fun w12 h12 => ?_)
            exact ⟨⟨bt', t + 1, mk :: ms, rfl, rfl, by simp; omega, by omega, h12.sub (.cons_cons _ (.cons_cons _ (.cons _ (.cons _ (.refl _)))))⟩, by simp [mkD]; omega⟩
          · have ht0 : t = 1 := by simp at ht0; omega
            refine ld_here h9 (.tail _ (.tail _ (.head _))) rfl ?_
            repeat (first | refine pu_not ?_ | refine pu_eql ?_ | refine pu_neq ?_ | refine pu_lss ?_ | refine pu_leq ?_ | refine pu_gtr ?_ | refine pu_geq ?_ | refine pu_add ?_ | refine pu_sub ?_ | refine fa_at ?_ | refine nl_ptr ?_ | refine ex20 ?_ | refine ex21 ?_ | refine ex30 ?_ | refine ex31 ?_ | refine ex32 ?_ | refine ln_rule ?_ | refine pu_seq ?_ | refine pu_sne ?_)
            refine cnd_t (by simp; omega) ?_
            refine ld_here h9 (.tail _ (.head _)) rfl ?_
            refine ld_here h9 (.tail _ (.tail _ (.tail _ (List.mem_append_right _ mW0)))) rfl ?_
            refine sls_ln hwant ?_
            rw [prows_len, hqn]
            repeat (first | refine pu_not ?_ | refine pu_eql ?_ | refine pu_neq ?_ | refine pu_lss ?_ | refine pu_leq ?_ | refine pu_gtr ?_ | refine pu_geq ?_ | refine pu_add ?_ | refine pu_sub ?_ | refine fa_at ?_ | refine nl_ptr ?_ | refine ex20 ?_ | refine ex21 ?_ | refine ex30 ?_ | refine ex31 ?_ | refine ex32 ?_ | refine ln_rule ?_ | refine pu_seq ?_ | refine pu_sne ?_)
            refine cnd_f (by have := hv1 ht0; simp <;> omega) ?_
            refine ld_here h9 (.tail _ (.tail _ (.head _))) rfl ?_
            refine al_rule h9 (l := [vI 0]) (by kernel_rfl) (fun bt' w10 h10 => ?_)
            refine st1_here (A := []) h10 rfl rfl (by simp) (fun w11 h11 => ?_)
            refine ld_here h11 (.head _) rfl ?_
            repeat (first | refine pu_not ?_ | refine pu_eql ?_ | refine pu_neq ?_ | refine pu_lss ?_ | refine pu_leq ?_ | refine pu_gtr ?_ | refine pu_geq ?_ | refine pu_add ?_ | refine pu_sub ?_ | refine fa_at ?_ | refine nl_ptr ?_ | refine ex20 ?_ | refine ex21 ?_ | refine ex30 ?_ | refine ex31 ?_ | refine ex32 ?_ | refine ln_rule ?_ | refine pu_seq ?_ | refine pu_sne ?_)
            rw [wrap64_in (by omega) (by omega)]
            refine st1_here (A := []) h11 rfl rfl (by simp) (fun w12 h12 => ?_)
            exact ⟨⟨bt', t + 1, mk :: ms, rfl, rfl, by simp; omega, by omega, h12.sub (.cons_cons _ (.cons_cons _ (.cons _ (.cons _ (.refl _)))))⟩, by simp [mkD]; omega⟩
      · obtain rfl : t = 2 := by simp at hlt2; omega
        have h9 := h8.drop
        refine works_spec h9 (fun w10 h10 => ?_)
        rw [← hD, ← hb3] at h10
        have h10 : Ow B w10 ((mkB ms ++ ((bs, cel [s'] T.t_sl_uint8) :: (S4 ++ ((b102, pgO p v) :: (bw, cel [u2] T.t_sl_api_Program) :: (ba, cel [u1] T.t_sl_int) :: (S1 ++ (S2 ++ (FF ++ Sb))))))) ++ (br, cel [vB false] T.t_bool) :: (bm, cel [vI many] T.t_int) :: H) := by simpa using h10
        refine st1_here h10 rfl rfl (by simp) (fun w11 h11 => ?_)
        have h11 : Ow B w11 (mkB ms ++ (((bs, cel [s'] T.t_sl_uint8) :: (S4 ++ ((b102, pgO p v) :: (bw, cel [u2] T.t_sl_api_Program) :: (ba, cel [u1] T.t_sl_int) :: (S1 ++ (S2 ++ (FF ++ Sb)))))) ++ (br, cel [vB true] T.t_bool) :: (bm, cel [vI many] T.t_int) :: H)) := by simpa using h11
        refine lv_rets h11 (fun w12 h12 => ?_)
        refine ld_here h12 (List.mem_append_right _ (.head _)) (v := vB true) rfl ?_
        exact k w12 (h12.sub ((((List.Sublist.refl H).cons _).cons _).trans (List.sublist_append_right _ _)))
    · have hq : e = 0 := by simpa using hq
      subst hq
      obtain rfl := hn rfl
      rw [if_pos rfl] at hd
      have hlt : kk < E.length := by
        rcases Nat.lt_or_ge kk E.length with h | h
        · exact h
        · rw [List.drop_eq_nil_of_le h] at hd; cases hd
      rw [List.drop_eq_getElem_cons hlt] at hd
      have hat : E[kk]? = some (a, p) := by rw [List.getElem?_eq_getElem hlt]; exact congrArg some (List.cons.inj hd).1
      have hd2 := (List.cons.inj hd).2
      have hn8 := hfle rfl
      have hk8 : kk ≤ 800000 := by omega
      have hab : bsC PG T.t_int 1 [(0, vI (a : Nat))] = some [vI (a : Nat)].toArray := by kernel_rfl
      have hpb : bsC PG T.t_api_Program 1 [(0, .agg (p.cells v).toArray)] = some (p.cells v).toArray := by rw [hv]; kernel_rfl
      have toB : ∀ {P Z : Hp} {w : World}, Ow B w (P ++ ((b102, pgO p v) :: (bw, cel [u2] T.t_sl_api_Program) :: (ba, cel [u1] T.t_sl_int) :: Z)) → Ow B w [(b102, pgO p v), (bw, cel [u2] T.t_sl_api_Program), (ba, cel [u1] T.t_sl_int)] := fun h =>
        h.sub ((List.Sublist.cons_cons _ (.cons_cons _ (.cons_cons _ (List.nil_sublist _)))).trans (List.sublist_append_right _ _))
      have fin : ∀ (P S1' S2' : Hp) (u1' u2' : Value) (w : World) (KN : Value → World → Prop), Vc.Own S1' T.t_int 1 u1' (kk + 1) (atsV (E.take (kk + 1))) → Vc.Own S2' T.t_api_Program 4 u2' (kk + 1) (prows (qs ++ [(v, p)])).flatten →
          Ow B w (P ++ ((b102, pgO p v) :: (bw, cel [u2] T.t_sl_api_Program) :: (ba, cel [u1] T.t_sl_int) :: (S1' ++ (S2' ++ (FF ++ base))))) →
          (∀ w', Ow B w' ((bw, cel [u2'] T.t_sl_api_Program) :: (ba, cel [u1'] T.t_sl_int) :: (S1' ++ (S2' ++ (FF ++ base)))) → KN (vI ((a + n : Nat) : Int)) w') →
          stW 1 (ptr ba) u1' (fun w121 => stW 1 (ptr bw) u2' (fun w122 => pu PG (binV .add T.t_int false (vI (a : Nat)) (vI (n : Nat))) fun t141 => KN t141 w122) w121) w := fun P S1' S2' u1' u2' w KN o1 o2 h kn => by
        obtain ⟨c1, c2, hu1⟩ := o1.len
        obtain ⟨d1, d2, hu2⟩ := o2.len
        have h : Ow B w ((P ++ [(b102, pgO p v), (bw, cel [u2] T.t_sl_api_Program)]) ++ (ba, cel [u1] T.t_sl_int) :: (S1' ++ (S2' ++ (FF ++ base)))) := by simpa using h
        refine st1_here h (by rw [hu1]; rfl) (by rw [hu1]; rfl) (by simp) (fun w1 h1 => ?_)
        have h1 : Ow B w1 ((P ++ [(b102, pgO p v)]) ++ (bw, cel [u2] T.t_sl_api_Program) :: (ba, cel [u1'] T.t_sl_int) :: (S1' ++ (S2' ++ (FF ++ base)))) := by simpa using h1
        refine st1_here h1 (by rw [hu2]; rfl) (by rw [hu2]; rfl) (by simp) (fun w2 h2 => ?_)
        repeat (first | refine pu_not ?_ | refine pu_eql ?_ | refine pu_neq ?_ | refine pu_lss ?_ | refine pu_leq ?_ | refine pu_gtr ?_ | refine pu_geq ?_ | refine pu_add ?_ | refine pu_sub ?_ | refine fa_at ?_ | refine nl_ptr ?_ | refine ex20 ?_ | refine ex21 ?_ | refine ex30 ?_ | refine ex31 ?_ | refine ex32 ?_ | refine ln_rule ?_ | refine pu_seq ?_ | refine pu_sne ?_)
        rw [wrap64_in (by omega) (by omega)]
        exact kn w2 (h2.sub (List.sublist_append_right _ _))
      refine ⟨fun w => Ow B w [(b102, pgO p v), (bw, cel [u2] T.t_sl_api_Program), (ba, cel [u1] T.t_sl_int)], toB (P := []) h10.drew, ?_⟩
      refine lds_here (fun w h => h) (.tail _ (.tail _ (.head _))) (v := u1) rfl ?_
      refine lds_here (fun w h => h) (.tail _ (.head _)) (v := u2) rfl ?_
      refine ldsn_here (fun w h => h) (.head _) (vs := p.cells v) rfl rfl ?_
      have kn : ∀ (S1' S2' : Hp) (u1' u2' : Value), Vc.Own S1' T.t_int 1 u1' (kk + 1) (atsV (E.take (kk + 1))) → Vc.Own S2' T.t_api_Program 4 u2' (kk + 1) (prows (qs ++ [(v, p)])).flatten → ∀ w', Ow B w' ((bw, cel [u2'] T.t_sl_api_Program) :: (ba, cel [u1'] T.t_sl_int) :: (S1' ++ (S2' ++ (FF ++ base)))) →
          (∃ (a' k f : Nat) (S1 S2 F : Hp) (u1 u2 : Value) (qs : List (Value × Pr)), [vI ((a + n : Nat) : Int)] = [vI a'] ∧ a' ≤ L.length ∧ L.length - a' < f ∧ E.drop k = eachL L f a' ∧ k ≤ E.length ∧ Laid E k S1 S2 F u1 u2 qs ∧
            Ow B w' ((bw, cel [u2] T.t_sl_api_Program) :: (ba, cel [u1] T.t_sl_int) :: (S1 ++ (S2 ++ (F ++ base))))) := fun S1' S2' u1' u2' o1 o2 w' h' => by
        refine ⟨a + n, kk + 1, f, S1', S2', FF, u1', u2', qs ++ [(v, p)], rfl, by omega, by omega, hd2, hlt, ⟨o1, o2, by simp [hL.n], ?_, ?_⟩, h'⟩
        · rw [List.take_add_one, hat, List.map_append, List.map_append, hL'.p]; rfl
        · intro q hq
          rcases List.mem_append.1 hq with hq | hq
          · exact hL'.f q hq
          · rw [List.mem_singleton.1 hq]; exact hFF
      have hmu : L.length + 1 - (((a + n : Nat) : Int)).toNat < L.length + 1 - ((a : Nat) : Int).toNat := by omega
      refine ⟨?_, ?_⟩
      · refine bs_rule h10.drew [vI (a : Nat)] hab (fun bi w11 h11 => ?_)
        refine ⟨toB (P := [_]) h11, ?_, ?_⟩
        · have h11 : Ow B w11 ([(bi, cel [vI (a : Nat)] T.t_int), (b102, pgO p v), (bw, cel [u2] T.t_sl_api_Program), (ba, cel [u1] T.t_sl_int)] ++ S1 ++ (S2 ++ (FF ++ base))) := by simpa using h11
          refine ints_app (p := p) hL'.o1 hat hk8 (.head _) h11 (fun S1' u1' w12 h12 o1 => ?_)
          have h12 : Ow B w12 ([(bi, cel [vI (a : Nat)] T.t_int)] ++ ((b102, pgO p v) :: (bw, cel [u2] T.t_sl_api_Program) :: (ba, cel [u1] T.t_sl_int) :: (S1' ++ (S2 ++ (FF ++ base))))) := by simpa using h12
          refine ⟨toB h12, ?_⟩
          refine bs_rule h12 (p.cells v) hpb (fun bp w13 h13 => ?_)
          refine ⟨toB (P := [_, _]) h13, ?_⟩
          have h13 : Ow B w13 (((bp, cel (p.cells v) T.t_api_Program) :: (bi, cel [vI (a : Nat)] T.t_int) :: (b102, pgO p v) :: (bw, cel [u2] T.t_sl_api_Program) :: (ba, cel [u1] T.t_sl_int) :: S1') ++ S2 ++ (FF ++ base)) := by simpa using h13
          refine progs_app (p := p) (v := v) hL'.o2 hvp hk8 (.head _) h13 (fun S2' u2' w14 h14 o2 => ?_)
          refine fin [(bp, cel (p.cells v) T.t_api_Program), (bi, cel [vI (a : Nat)] T.t_int)] S1' S2' u1' u2' w14 _ o1 o2 (by simpa using h14) (fun w' h' => ⟨kn S1' S2' u1' u2' o1 o2 w' h', hmu⟩)
        · refine bs_rule h11 (p.cells v) hpb (fun bp w12 h12 => ?_)
          refine ⟨toB (P := [_, _]) h12, ?_⟩
          have h12 : Ow B w12 ([(bp, cel (p.cells v) T.t_api_Program), (bi, cel [vI (a : Nat)] T.t_int), (b102, pgO p v), (bw, cel [u2] T.t_sl_api_Program), (ba, cel [u1] T.t_sl_int)] ++ S1 ++ (S2 ++ (FF ++ base))) := by simpa using h12
          refine ints_app (p := p) hL'.o1 hat hk8 (.tail _ (.head _)) h12 (fun S1' u1' w13 h13 o1 => ?_)
          have h13' : Ow B w13 ([(bp, cel (p.cells v) T.t_api_Program), (bi, cel [vI (a : Nat)] T.t_int)] ++ ((b102, pgO p v) :: (bw, cel [u2] T.t_sl_api_Program) :: (ba, cel [u1] T.t_sl_int) :: (S1' ++ (S2 ++ (FF ++ base))))) := by simpa using h13
          refine ⟨toB h13', ?_⟩
          have h13 : Ow B w13 (((bp, cel (p.cells v) T.t_api_Program) :: (bi, cel [vI (a : Nat)] T.t_int) :: (b102, pgO p v) :: (bw, cel [u2] T.t_sl_api_Program) :: (ba, cel [u1] T.t_sl_int) :: S1') ++ S2 ++ (FF ++ base)) := by simpa using h13
          refine progs_app (p := p) (v := v) hL'.o2 hvp hk8 (.head _) h13 (fun S2' u2' w14 h14 o2 => ?_)
          refine fin [(bp, cel (p.cells v) T.t_api_Program), (bi, cel [vI (a : Nat)] T.t_int)] S1' S2' u1' u2' w14 _ o1 o2 (by simpa using h14) (fun w' h' => ⟨kn S1' S2' u1' u2' o1 o2 w' h', hmu⟩)
      · refine bs_rule h10.drew (p.cells v) hpb (fun bp w11 h11 => ?_)
        refine ⟨toB (P := [_]) h11, ?_⟩
        refine bs_rule h11 [vI (a : Nat)] hab (fun bi w12 h12 => ?_)
        refine ⟨toB (P := [_, _]) h12, ?_⟩
        have h12 : Ow B w12 ([(bi, cel [vI (a : Nat)] T.t_int), (bp, cel (p.cells v) T.t_api_Program), (b102, pgO p v), (bw, cel [u2] T.t_sl_api_Program), (ba, cel [u1] T.t_sl_int)] ++ S1 ++ (S2 ++ (FF ++ base))) := by simpa using h12
        refine ints_app (p := p) hL'.o1 hat hk8 (.head _) h12 (fun S1' u1' w13 h13 o1 => ?_)
        have h13' : Ow B w13 ([(bi, cel [vI (a : Nat)] T.t_int), (bp, cel (p.cells v) T.t_api_Program)] ++ ((b102, pgO p v) :: (bw, cel [u2] T.t_sl_api_Program) :: (ba, cel [u1] T.t_sl_int) :: (S1' ++ (S2 ++ (FF ++ base))))) := by simpa using h13
        refine ⟨toB h13', ?_⟩
        have h13 : Ow B w13 (((bi, cel [vI (a : Nat)] T.t_int) :: (bp, cel (p.cells v) T.t_api_Program) :: (b102, pgO p v) :: (bw, cel [u2] T.t_sl_api_Program) :: (ba, cel [u1] T.t_sl_int) :: S1') ++ S2 ++ (FF ++ base)) := by simpa using h13
        refine progs_app (p := p) (v := v) hL'.o2 hvp hk8 (.tail _ (.head _)) h13 (fun S2' u2' w14 h14 o2 => ?_)
        refine fin [(bi, cel [vI (a : Nat)] T.t_int), (bp, cel (p.cells v) T.t_api_Program)] S1' S2' u1' u2' w14 _ o1 o2 (by simpa using h14) (fun w' h' => ⟨kn S1' S2' u1' u2' o1 o2 w' h', hmu⟩)
end
end Go.Proofs.YtkkkcafkepnecaaGreat.Im
namespace Go.Proofs.YtkkkcafkepnecaaGreat
open Go Go.RowKit Vc
theorem ImageEach.law {B w : World} {H : Hp} {K : Value → World → Prop} {PK : List PanicEntry → World → Prop} {v0 v1 v2 : Value} (g0 : FitV PG H T.t_sl_api_Program v0) (g1 : FitV PG H T.t_sl_uint8 v1) (g2 : FitV PG H T.t_int v2) (h : Ow B w H) (k : ∀ w', Ow B w' H → K (vB true) w') : callW PG N.linesmanlaw10_ImageEach [v0, v1, v2] K PK w :=
  Im.each_law g0 g1 g2 h k
end Go.Proofs.YtkkkcafkepnecaaGreat

