/- Images: the document's First, Decode; the law ImageSealed. -/
import Derived.Test.YtkkkcafkepnecaaGreatIV
import Derived.Test.YtkkkcafkepnecaaGreatIQ
import Derived.Test.YtkkkcafkepnecaaGreatJW

set_option linter.unusedVariables false
set_option linter.unusedSimpArgs false
set_option linter.unnecessarySimpa false
namespace Go.Proofs.YtkkkcafkepnecaaGreat.Im
open Go Go.RowKit Vc Oc Dg
attribute [local irreducible] binV Op.unary convert nlW faW ldS ldW ixS ixA ixV ixT exW lnS lnT pu stW alW opW opU bsW mkW

section
variable {B w : World} {H C X Y : Hp} {K KW : Value → World → Prop} {KK : Value → Prop} {PK : List PanicEntry → World → Prop} {s : Value} {l : List Nat} {a : Nat} {e : Int}
theorem reffirst_spec (hs : Sl X s (bv l)) (hX : ∀ y, y ∈ X → y ∈ H) (hb : Byt l) (hl : l.length ≤ 800000) (h : Ow B w H)
    (k : ∀ F v n w', CpP F v (firstR l).1.fs → (∀ f ∈ (firstR l).1.fs, immOk f.code) → ((firstR l).2.2 = 0 → n = (firstR l).2.1) → Ow B w' (F ++ H) → K (.tuple #[.agg ((firstR l).1.cells v).toArray, vI (n : Nat), vI (firstR l).2.2]) w') : callW PG N.linesmanref10_First [s] K PK w := by
  refine linesmanref10_First.ok ?_
  unfold linesmanref10_First.C
  obtain ⟨ad, cp, rfl, hcp⟩ := Sl.cap hs
  generalize hsv : Value.slice ad (bv l).length cp = s at *
  refine al_rule h (l := p0.cells nilS) (by kernel_rfl) (fun b2 w1 h1 => ?_)
  refine pu_build (rdC s 0 0) (by subst hsv; kernel_rfl) ?_
  have tail : ∀ (F : Hp) (v : Value) (p : Pr) (n : Nat) (e : Int) (w : World), firstR l = (p, if e = 0 then n else 0, e) → CpP F v p.fs → (∀ f ∈ p.fs, immOk f.code) → Ow B w (F ++ (b2, pgO p0 nilS) :: H) →
      alW (zc PG T.t_linesmanref10_Reader) T.t_linesmanref10_Reader (fun t10 w11 => alW (zc PG T.t_api_Program) T.t_api_Program (fun t12 w13 => stW 3 t10 (.agg (rdC s n e).toArray) (fun w14 => stW 4 t12 (.agg (p.cells v).toArray) (fun w15 => ∃ H17 : World → Prop, H17 (World.drew w15) ∧ (ldW (some 4) t12 (World.drew w15) fun t18 => faW 1 t10 fun t19 => ldS none t19 H17 fun t20 => faW 2 t10 fun t21 => ldS none t21 H17 fun t22 => stW 4 (ptr b2) t18 (fun w23 => H17 w23 ∧ (ldW (some 4) (ptr b2) w23 fun t24 => K (.tuple #[t24, t20, t22]) w23)) (World.drew w15))) w14) w13) w11) w := fun F v p n e w hf hF him h => by
    obtain ⟨a1, a2, a3, hv⟩ := cp_sl hF
    have hvp : plainV v = true := by rw [hv]; rfl
    refine al_rule h (l := z4) (by kernel_rfl) (fun b10 w3 h3 => ?_)
    refine al_rule h3 (l := p0.cells nilS) (by kernel_rfl) (fun b12 w4 h4 => ?_)
    have h4 : Ow B w4 ([(b12, pgO p0 nilS)] ++ (b10, cel z4 T.t_linesmanref10_Reader) :: (F ++ (b2, pgO p0 nilS) :: H)) := h4
    refine st_here h4 (rdC s n e) rfl rfl (rd_plain hs) (by simp) (fun w5 h5 => ?_)
    have h5 : Ow B w5 ([] ++ (b12, pgO p0 nilS) :: (b10, rdO s n e) :: (F ++ (b2, pgO p0 nilS) :: H)) := h5
    refine st_here h5 (p.cells v) rfl rfl (cells_plain _ hvp) (by simp [Pr.cells]) (fun w6 h6 => ?_)
    have h6 : Ow B w6 ((b12, pgO p v) :: (b10, rdO s n e) :: (F ++ (b2, pgO p0 nilS) :: H)) := h6
    have hh : ∀ {o2 : Obj} {w : World}, Ow B w ((b12, pgO p v) :: (b10, rdO s n e) :: (F ++ (b2, o2) :: H)) → Ow B w [(b10, rdO s n e)] := fun h => h.sub ((List.Sublist.cons_cons _ (List.nil_sublist _)).cons _)
    refine ⟨fun w => Ow B w [(b10, rdO s n e)], hh h6.drew, ?_⟩
    refine ldn_here h6.drew (.head _) (vs := p.cells v) rfl rfl ?_
    repeat (first | refine pu_not ?_ | refine pu_eql ?_ | refine pu_neq ?_ | refine pu_lss ?_ | refine pu_leq ?_ | refine pu_gtr ?_ | refine pu_geq ?_ | refine pu_add ?_ | refine pu_sub ?_ | refine fa_at ?_ | refine nl_ptr ?_ | refine ex20 ?_ | refine ex21 ?_ | refine ex30 ?_ | refine ex31 ?_ | refine ex32 ?_ | refine ln_rule ?_ | refine pu_seq ?_ | refine pu_sne ?_)
    refine lds_here (fun w h => h) (.head _) (v := vI n) rfl ?_
    repeat (first | refine pu_not ?_ | refine pu_eql ?_ | refine pu_neq ?_ | refine pu_lss ?_ | refine pu_leq ?_ | refine pu_gtr ?_ | refine pu_geq ?_ | refine pu_add ?_ | refine pu_sub ?_ | refine fa_at ?_ | refine nl_ptr ?_ | refine ex20 ?_ | refine ex21 ?_ | refine ex30 ?_ | refine ex31 ?_ | refine ex32 ?_ | refine ln_rule ?_ | refine pu_seq ?_ | refine pu_sne ?_)
    refine lds_here (fun w h => h) (.head _) (v := vI e) rfl ?_
    have h7 : Ow B w6.drew (((b12, pgO p v) :: (b10, rdO s n e) :: F) ++ (b2, pgO p0 nilS) :: H) := h6.drew
    refine st_here h7 (p.cells v) rfl rfl (cells_plain _ hvp) (by simp [Pr.cells]) (fun w8 h8 => ?_)
    have h8 : Ow B w8 ((b12, pgO p v) :: (b10, rdO s n e) :: (F ++ (b2, pgO p v) :: H)) := h8
    refine ⟨hh h8, ?_⟩
    refine ldn_here h8 (.tail _ (.tail _ (List.mem_append_right _ (.head _)))) (vs := p.cells v) rfl rfl ?_
    rw [hf] at k
    refine k F v n _ hF him (fun he => ?_) (h8.sub (((List.Sublist.refl F).append ((List.Sublist.refl H).cons _)).cons _ |>.cons _))
    have he : e = 0 := he
    exact (if_pos he).symm
  refine refprog_spec hs (fun y hy => .tail _ (hX y hy)) hb hl h1 (fun F v p n w2 hP hF him h2 => ?_) (fun n e w2 hP he h2 => ?_)
  · repeat (first | refine pu_not ?_ | refine pu_eql ?_ | refine pu_neq ?_ | refine pu_lss ?_ | refine pu_leq ?_ | refine pu_gtr ?_ | refine pu_geq ?_ | refine pu_add ?_ | refine pu_sub ?_ | refine fa_at ?_ | refine nl_ptr ?_ | refine ex20 ?_ | refine ex21 ?_ | refine ex30 ?_ | refine ex31 ?_ | refine ex32 ?_ | refine ln_rule ?_ | refine pu_seq ?_ | refine pu_sne ?_)
    exact tail F v p n 0 w2 (by unfold firstR; rw [hP]; rfl) hF him h2
  · repeat (first | refine pu_not ?_ | refine pu_eql ?_ | refine pu_neq ?_ | refine pu_lss ?_ | refine pu_leq ?_ | refine pu_gtr ?_ | refine pu_geq ?_ | refine pu_add ?_ | refine pu_sub ?_ | refine fa_at ?_ | refine nl_ptr ?_ | refine ex20 ?_ | refine ex21 ?_ | refine ex30 ?_ | refine ex31 ?_ | refine ex32 ?_ | refine ln_rule ?_ | refine pu_seq ?_ | refine pu_sne ?_)
    exact tail [] nilS p0 n e w2 (by unfold firstR; rw [hP, if_neg he]) cp0 (by simp [p0]) h2
theorem refdecode_spec (hs : Sl X s (bv l)) (hX : ∀ y, y ∈ X → y ∈ H) (hb : Byt l) (hl : l.length ≤ 800000) (h : Ow B w H)
    (k : ∀ F v w', CpP F v (decR l).1.fs → (∀ f ∈ (decR l).1.fs, immOk f.code) → Ow B w' (F ++ H) → K (.tuple #[.agg ((decR l).1.cells v).toArray, vI (decR l).2]) w') : callW PG N.linesmanref10_Decode [s] K PK w := by
  refine linesmanref10_Decode.ok ?_
  unfold linesmanref10_Decode.C
  refine al_rule h (l := p0.cells nilS) (by kernel_rfl) (fun b2 w1 h1 => ?_)
  refine reffirst_spec hs (fun x hx => .tail _ (hX x hx)) hb hl h1 (fun F v n' w2 hF him hn h2 => ?_)
  have hdr : decR l = if (firstR l).2.2 = 0 ∧ (firstR l).2.1 < l.length then (p0, 200) else ((firstR l).1, (firstR l).2.2) := by
    unfold decR firstR
    cases hP : progR l with
    | ok q => by_cases hq : q.2 < l.length <;> simp [hq]
    | error e =>
      have : e ≠ 0 := by rcases progR_er hP with rfl | rfl <;> decide
      simp [this]
  have hfz : (firstR l).2.2 ≠ 0 → (firstR l).1 = p0 := by
    unfold firstR
    cases hP : progR l with
    | ok q => intro h; exact absurd rfl h
    | error e => intro _; rfl
  obtain ⟨a1, a2, a3, hv⟩ := cp_sl hF
  have hvp : plainV v = true := by rw [hv]; rfl
  generalize firstR l = r at *
  obtain ⟨p, n, e⟩ := r
  simp only at hdr hF him hn hfz ⊢
  repeat (first | refine pu_not ?_ | refine pu_eql ?_ | refine pu_neq ?_ | refine pu_lss ?_ | refine pu_leq ?_ | refine pu_gtr ?_ | refine pu_geq ?_ | refine pu_add ?_ | refine pu_sub ?_ | refine fa_at ?_ | refine nl_ptr ?_ | refine ex20 ?_ | refine ex21 ?_ | refine ex30 ?_ | refine ex31 ?_ | refine ex32 ?_ | refine ln_rule ?_ | refine pu_seq ?_ | refine pu_sne ?_)
  refine al_rule h2 (l := p0.cells nilS) (by kernel_rfl) (fun b10 w3 h3 => ?_)
  refine st_here (A := []) h3 (p.cells v) rfl rfl (cells_plain _ hvp) (by simp [Pr.cells]) (fun w4 h4 => ?_)
  have h4 : Ow B w4 (((b10, pgO p v) :: F) ++ (b2, pgO p0 nilS) :: H) := h4
  repeat (first | refine pu_not ?_ | refine pu_eql ?_ | refine pu_neq ?_ | refine pu_lss ?_ | refine pu_leq ?_ | refine pu_gtr ?_ | refine pu_geq ?_ | refine pu_add ?_ | refine pu_sub ?_ | refine fa_at ?_ | refine nl_ptr ?_ | refine ex20 ?_ | refine ex21 ?_ | refine ex30 ?_ | refine ex31 ?_ | refine ex32 ?_ | refine ln_rule ?_ | refine pu_seq ?_ | refine pu_sne ?_)
  refine cnd (fun hq => ?_) (fun hq => ?_)
  · have hq : e = 0 := by simpa using hq
    subst hq
    obtain rfl := hn rfl
    refine sl_ln hs ?_
    repeat (first | refine pu_not ?_ | refine pu_eql ?_ | refine pu_neq ?_ | refine pu_lss ?_ | refine pu_leq ?_ | refine pu_gtr ?_ | refine pu_geq ?_ | refine pu_add ?_ | refine pu_sub ?_ | refine fa_at ?_ | refine nl_ptr ?_ | refine ex20 ?_ | refine ex21 ?_ | refine ex30 ?_ | refine ex31 ?_ | refine ex32 ?_ | refine ln_rule ?_ | refine pu_seq ?_ | refine pu_sne ?_)
    have hbl : (bv l).length = l.length := by simp
    rw [hbl]
    refine cnd (fun hq2 => ?_) (fun hq2 => ?_)
    · have hq2 : n' < l.length := by simpa using hq2
      rw [if_pos ⟨rfl, hq2⟩] at hdr
      rw [hdr] at k
      simp only at k
      repeat (first | refine pu_not ?_ | refine pu_eql ?_ | refine pu_neq ?_ | refine pu_lss ?_ | refine pu_leq ?_ | refine pu_gtr ?_ | refine pu_geq ?_ | refine pu_add ?_ | refine pu_sub ?_ | refine fa_at ?_ | refine nl_ptr ?_ | refine ex20 ?_ | refine ex21 ?_ | refine ex30 ?_ | refine ex31 ?_ | refine ex32 ?_ | refine ln_rule ?_ | refine pu_seq ?_ | refine pu_sne ?_)
      refine cnd_t rfl ?_
      refine pu_build (p0.cells nilS) (by kernel_rfl) ?_
      refine st_here h4 (p0.cells nilS) rfl rfl rfl (by simp [Pr.cells]) (fun w5 h5 => ?_)
      have e4 : (p0.cells nilS).take 0 ++ p0.cells nilS ++ (p0.cells nilS).drop (0 + 4) = p0.cells nilS := rfl
      rw [e4] at h5
      refine ldn_here h5 (List.mem_append_right _ (.head _)) (vs := p0.cells nilS) rfl rfl ?_
      exact k [] nilS _ cp0 (by simp [p0]) (h5.sub (((List.Sublist.refl H).cons _).trans (List.sublist_append_right _ _)))
    · have hq2 : ¬ n' < l.length := by simpa using hq2
      rw [if_neg (fun hh => hq2 hh.2)] at hdr
      rw [hdr] at k
      simp only at k
      repeat (first | refine pu_not ?_ | refine pu_eql ?_ | refine pu_neq ?_ | refine pu_lss ?_ | refine pu_leq ?_ | refine pu_gtr ?_ | refine pu_geq ?_ | refine pu_add ?_ | refine pu_sub ?_ | refine fa_at ?_ | refine nl_ptr ?_ | refine ex20 ?_ | refine ex21 ?_ | refine ex30 ?_ | refine ex31 ?_ | refine ex32 ?_ | refine ln_rule ?_ | refine pu_seq ?_ | refine pu_sne ?_)
      refine cnd_f rfl ?_
      refine ldn_here h4 (.head _) (vs := p.cells v) rfl rfl ?_
      refine st_here h4 (p.cells v) rfl rfl (cells_plain _ hvp) (by simp [Pr.cells]) (fun w5 h5 => ?_)
      have e4 : (p0.cells nilS).take 0 ++ p.cells v ++ (p0.cells nilS).drop (0 + 4) = p.cells v := rfl
      rw [e4] at h5
      refine ldn_here h5 (List.mem_append_right _ (.head _)) (vs := p.cells v) rfl rfl ?_
      exact k F v _ hF him (h5.sub (((List.Sublist.refl F).append ((List.Sublist.refl H).cons _)).cons _))
  · have hq : ¬ e = 0 := by simpa using hq
    rw [if_neg (fun hh => hq hh.1)] at hdr
    rw [hdr] at k
    simp only at k
    obtain rfl := hfz hq
    repeat (first | refine pu_not ?_ | refine pu_eql ?_ | refine pu_neq ?_ | refine pu_lss ?_ | refine pu_leq ?_ | refine pu_gtr ?_ | refine pu_geq ?_ | refine pu_add ?_ | refine pu_sub ?_ | refine fa_at ?_ | refine nl_ptr ?_ | refine ex20 ?_ | refine ex21 ?_ | refine ex30 ?_ | refine ex31 ?_ | refine ex32 ?_ | refine ln_rule ?_ | refine pu_seq ?_ | refine pu_sne ?_)
    refine cnd_t (by simpa using hq) ?_
    refine pu_build (p0.cells nilS) (by kernel_rfl) ?_
    refine st_here h4 (p0.cells nilS) rfl rfl rfl (by simp [Pr.cells]) (fun w5 h5 => ?_)
    have e4 : (p0.cells nilS).take 0 ++ p0.cells nilS ++ (p0.cells nilS).drop (0 + 4) = p0.cells nilS := rfl
    rw [e4] at h5
    refine ldn_here h5 (List.mem_append_right _ (.head _)) (vs := p0.cells nilS) rfl rfl ?_
    exact k [] nilS _ cp0 (by simp [p0]) (h5.sub (((List.Sublist.refl H).cons _).trans (List.sublist_append_right _ _)))
theorem sealed_law {v0 v1 : Value} (g0 : FitV PG H T.t_sl_uint8 v0) (g1 : FitV PG H T.t_sl_uint8 v1) (h : Ow B w H) (k : ∀ w', Ow B w' H → K (vB true) w') : callW PG N.linesmanlaw10_ImageSealed [v0, v1] K PK w := by
  obtain ⟨l, hl, hlm, hlb⟩ := bytes_of g0
  obtain ⟨t, ht, htm, htb⟩ := bytes_of g1
  refine linesmanlaw10_ImageSealed.ok ?_
  unfold linesmanlaw10_ImageSealed.C
  refine sl_ln hl ?_
  rw [List.length_map]
  repeat (first | refine pu_not ?_ | refine pu_eql ?_ | refine pu_neq ?_ | refine pu_lss ?_ | refine pu_leq ?_ | refine pu_gtr ?_ | refine pu_geq ?_ | refine pu_add ?_ | refine pu_sub ?_ | refine fa_at ?_ | refine nl_ptr ?_ | refine ex20 ?_ | refine ex21 ?_ | refine ex30 ?_ | refine ex31 ?_ | refine ex32 ?_ | refine ln_rule ?_ | refine pu_seq ?_ | refine pu_sne ?_)
  refine cnd (fun hq => ?_) (fun hq => ?_)
  · exact works_spec h k
  have hl4 : l.length ≤ 4000 := by have := of_decide_eq_false hq; omega
  refine sl_ln ht ?_
  rw [List.length_map]
  repeat (first | refine pu_not ?_ | refine pu_eql ?_ | refine pu_neq ?_ | refine pu_lss ?_ | refine pu_leq ?_ | refine pu_gtr ?_ | refine pu_geq ?_ | refine pu_add ?_ | refine pu_sub ?_ | refine fa_at ?_ | refine nl_ptr ?_ | refine ex20 ?_ | refine ex21 ?_ | refine ex30 ?_ | refine ex31 ?_ | refine ex32 ?_ | refine ln_rule ?_ | refine pu_seq ?_ | refine pu_sne ?_)
  refine cnd (fun hq => ?_) (fun hq => ?_)
  · exact works_spec h k
  have ht5 : t.length ≤ 50 := by have := of_decide_eq_false hq; omega
  refine sealed_spec hl (fun x hx => hx) hlb (by omega) h (fun S1 o1 w1 h1 ho1 => ?_)
  have hle : (l ++ fx (sum l) 8).length = l.length + 8 := by rw [List.length_append, fx_len]
  refine sl_app (S := S1) (C := H) h1 ho1 ht (fun x hx => List.mem_append_right _ hx) (by omega) (fun S c w2 h2 ho => ?_)
  have hby : Byt (l ++ fx (sum l) 8 ++ t) := byt_app (byt_app hlb (fx_byt _ _)) htb
  have hlen : (l ++ fx (sum l) 8 ++ t).length ≤ 5000 := by rw [List.length_append]; omega
  generalize l ++ fx (sum l) 8 ++ t = m at ho hby hlen
  have hs : Sl (S ++ H) c (bv m) := (Vc.Own.sl ho).mono fun x hx => List.mem_append_left _ hx
  refine decode_spec hs (fun x hx => hx) hby (by omega) h2 (fun F v w3 hF him h3 => ?_)
  obtain ⟨a1, a2, a3, hv⟩ := cp_sl hF
  repeat (first | refine pu_not ?_ | refine pu_eql ?_ | refine pu_neq ?_ | refine pu_lss ?_ | refine pu_leq ?_ | refine pu_gtr ?_ | refine pu_geq ?_ | refine pu_add ?_ | refine pu_sub ?_ | refine fa_at ?_ | refine nl_ptr ?_ | refine ex20 ?_ | refine ex21 ?_ | refine ex30 ?_ | refine ex31 ?_ | refine ex32 ?_ | refine ln_rule ?_ | refine pu_seq ?_ | refine pu_sne ?_)
  refine al_rule h3 (l := p0.cells nilS) (by kernel_rfl) (fun b24 w4 h4 => ?_)
  refine st_here (A := []) h4 ((decR m).1.cells v) rfl rfl (cells_plain _ (by rw [hv]; rfl)) (by simp [Pr.cells]) (fun w5 h5 => ?_)
  have h5 : Ow B w5 ((b24, pgO (decR m).1 v) :: (F ++ (S ++ H))) := h5
  refine refdecode_spec hs (fun x hx => .tail _ (List.mem_append_right _ hx)) hby (by omega) h5 (fun F' v' w6 hF' him' h6 => ?_)
  obtain ⟨a1, a2, a3, hv'⟩ := cp_sl hF'
  repeat (first | refine pu_not ?_ | refine pu_eql ?_ | refine pu_neq ?_ | refine pu_lss ?_ | refine pu_leq ?_ | refine pu_gtr ?_ | refine pu_geq ?_ | refine pu_add ?_ | refine pu_sub ?_ | refine fa_at ?_ | refine nl_ptr ?_ | refine ex20 ?_ | refine ex21 ?_ | refine ex30 ?_ | refine ex31 ?_ | refine ex32 ?_ | refine ln_rule ?_ | refine pu_seq ?_ | refine pu_sne ?_)
  refine al_rule h6 (l := p0.cells nilS) (by kernel_rfl) (fun b32 w7 h7 => ?_)
  refine st_here (A := []) h7 ((decR m).1.cells v') rfl rfl (cells_plain _ (by rw [hv']; rfl)) (by simp [Pr.cells]) (fun w8 h8 => ?_)
  have h8 : Ow B w8 ((b32, pgO (decR m).1 v') :: (F' ++ ((b24, pgO (decR m).1 v) :: (F ++ (S ++ H))))) := h8
  refine ldn_here h8 (.tail _ (List.mem_append_right _ (.head _))) (vs := (decR m).1.cells v) rfl rfl ?_
  refine ldn_here h8 (.head _) (vs := (decR m).1.cells v') rfl rfl ?_
  refine refSame_spec (p := (decR m).1) (q := (decR m).1) (X := (b32, pgO (decR m).1 v') :: (F' ++ ((b24, pgO (decR m).1 v) :: (F ++ (S ++ H))))) ((hF.ins him).mono fun x hx => .tail _ (List.mem_append_right _ (.tail _ (List.mem_append_left _ hx))))
    ((hF'.ins him').mono fun x hx => .tail _ (List.mem_append_left _ hx)) (fun x hx => hx) h8 (fun w9 h9 => ?_)
  refine cnd_t (by simp) ?_
  refine num10 ?_
  repeat (first | refine pu_not ?_ | refine pu_eql ?_ | refine pu_neq ?_ | refine pu_lss ?_ | refine pu_leq ?_ | refine pu_gtr ?_ | refine pu_geq ?_ | refine pu_add ?_ | refine pu_sub ?_ | refine fa_at ?_ | refine nl_ptr ?_ | refine ex20 ?_ | refine ex21 ?_ | refine ex30 ?_ | refine ex31 ?_ | refine ex32 ?_ | refine ln_rule ?_ | refine pu_seq ?_ | refine pu_sne ?_)
  refine cnd_t (by simp) ?_
  refine works_spec h9 (fun w10 h10 => k _ (h10.sub ?_))
  exact (((List.sublist_append_right S H).trans (List.sublist_append_right F _)).cons _ |>.trans (List.sublist_append_right F' _)).cons _
end
end Go.Proofs.YtkkkcafkepnecaaGreat.Im
namespace Go.Proofs.YtkkkcafkepnecaaGreat
open Go Go.RowKit Vc
theorem ImageSealed.law {B w : World} {H : Hp} {K : Value → World → Prop} {PK : List PanicEntry → World → Prop} {v0 v1 : Value} (g0 : FitV PG H T.t_sl_uint8 v0) (g1 : FitV PG H T.t_sl_uint8 v1) (h : Ow B w H) (k : ∀ w', Ow B w' H → K (vB true) w') : callW PG N.linesmanlaw10_ImageSealed [v0, v1] K PK w :=
  Im.sealed_law g0 g1 h k
end Go.Proofs.YtkkkcafkepnecaaGreat

