/- The law StackStarts. -/
import Derived.Test.YtkkkcafkepnecaaGreatYI
import Derived.Test.YtkkkcafkepnecaaGreatGK

set_option linter.unusedVariables false
set_option linter.unusedSimpArgs false
namespace Go.Proofs.YtkkkcafkepnecaaGreat
open Go Go.RowKit Vc Ar
attribute [local irreducible] binV Op.unary convert nlW faW ldS ldW ixS ixA ixV ixT exW lnS lnT pu stW alW opW opU bsW mkW

section
variable {B w : World} {H X F F' Q R : Hp} {K : Value → World → Prop} {PK : List PanicEntry → World → Prop} {KK : Value → Prop} {p : Pr} {s s' : SK} {v a c d : Value} {bx : Nat} {res : Int} {m n : Frm} {f : Fun} {i : Ins}
theorem pu_pnnilS {q : Value} {o : Option Addr} (hq : q = .pointer o) {X : Value → Prop} (k : X (vB !o.isNone)) : pu PG (binV .neq T.t_ptr_stack_Stack true q (.pointer none)) X := by
  rw [hq]; exact pu_pnnil und_ptr k
set_option maxRecDepth 40000 in
set_option maxHeartbeats 4000000 in
theorem StackStarts.law {v0 : Value} (g0 : FitV PG H T.t_linesmanlaw12_Start v0) (h : Ow B w H) (k : ∀ w', Ow B w' H → K (vB true) w') : callW PG N.linesmanlaw12_StackStarts [v0] K PK w := by
  obtain ⟨p, v, x, a, ws, rfl, hv, ha, hau⟩ := start_of g0
  have hrl : (rgs ws).length = ws.length := by simp [rgs]
  refine linesmanlaw12_StackStarts.ok ?_
  unfold linesmanlaw12_StackStarts.C
  refine al_rule h (l := stC p v x a) rfl (fun b2 w1 h1 => ?_)
  have hX : ∀ y, y ∈ H → y ∈ (b2, cel (stC p v x a) T.t_linesmanlaw12_Start) :: H := fun y hy => .tail _ hy
  have kk : ∀ w', Ow B w' ((b2, cel (stC p v x a) T.t_linesmanlaw12_Start) :: H) → K (vB true) w' := fun w' h' => k w' h'.drop
  have m2 : (b2, cel (stC p v x a) T.t_linesmanlaw12_Start) ∈ (b2, cel (stC p v x a) T.t_linesmanlaw12_Start) :: H := .head _
  generalize hG : (b2, cel (stC p v x a) T.t_linesmanlaw12_Start) :: H = G at *
  refine ldn_here h1 m2 (vs := stC p v x a) rfl rfl ?_
  refine small12_spec hv ha hX h1 (fun r w2 hr h2 => ?_)
  repeat (first | refine pu_not ?_ | refine pu_eql ?_ | refine pu_neq ?_ | refine pu_lss ?_ | refine pu_leq ?_ | refine pu_gtr ?_ | refine pu_geq ?_ | refine pu_add ?_ | refine pu_sub ?_ | refine pu_mul ?_ | refine pu_neg ?_ | refine fa_at ?_ | refine nl_ptr ?_ | refine ex20 ?_ | refine ex21 ?_ | refine ex30 ?_ | refine ex31 ?_ | refine ex32 ?_ | refine ln_rule ?_ | refine lnT_rule ?_ | refine pu_and ?_ | refine pu_or ?_ | refine pu_xor ?_ | refine pu_seq ?_ | refine pu_sne ?_)
  refine cnd (fun hq => works12_spec h2 kk) (fun hq => ?_)
  have hr := hr (by simpa using hq)
  refine ⟨fun w => Ow B w G, h2.drew, ?_⟩
  repeat (first | refine pu_not ?_ | refine pu_eql ?_ | refine pu_neq ?_ | refine pu_lss ?_ | refine pu_leq ?_ | refine pu_gtr ?_ | refine pu_geq ?_ | refine pu_add ?_ | refine pu_sub ?_ | refine pu_mul ?_ | refine pu_neg ?_ | refine fa_at ?_ | refine nl_ptr ?_ | refine ex20 ?_ | refine ex21 ?_ | refine ex30 ?_ | refine ex31 ?_ | refine ex32 ?_ | refine ln_rule ?_ | refine lnT_rule ?_ | refine pu_and ?_ | refine pu_or ?_ | refine pu_xor ?_ | refine pu_seq ?_ | refine pu_sne ?_)
  refine lds_here (fun w h => h) m2 (v := a) rfl ?_
  repeat (first | refine pu_not ?_ | refine pu_eql ?_ | refine pu_neq ?_ | refine pu_lss ?_ | refine pu_leq ?_ | refine pu_gtr ?_ | refine pu_geq ?_ | refine pu_add ?_ | refine pu_sub ?_ | refine pu_mul ?_ | refine pu_neg ?_ | refine fa_at ?_ | refine nl_ptr ?_ | refine ex20 ?_ | refine ex21 ?_ | refine ex30 ?_ | refine ex31 ?_ | refine ex32 ?_ | refine ln_rule ?_ | refine lnT_rule ?_ | refine pu_and ?_ | refine pu_or ?_ | refine pu_xor ?_ | refine pu_seq ?_ | refine pu_sne ?_)
  refine lds_here (fun w h => h) m2 (v := a) rfl ?_
  refine sl_ln ha ?_
  rw [hrl]
  have sub : ∀ {A : Hp} {w : World}, Ow B w (A ++ G) → Ow B w G := fun h => h.sub (List.sublist_append_right _ _)
  have haG : Sl G a (rgs ws) := ha.mono hX
  have h77 : rgs ws ++ rgs [77] = rgs (ws ++ [77]) := by simp [rgs]
  -- behind the slice's making
  have own0 : ∀ b : Nat, Vc.Own [(b, cel [] T.t_uint32)] T.t_uint32 1 (.slice (some ⟨b, 0, none⟩) 0 0) 0 (rgs []) := fun b => Own.mk (n := 0) (cap := 0) (xs := []) (Nat.le_refl _) (Nat.zero_le _) rfl rfl
  have hl1 : ∀ n : Nat, n ≤ 30 → n ≤ maxLen := fun n h => by simp only [maxLen]; omega
  refine ⟨?_, ?_⟩
  · refine bs_rule h2.drew [] (by kernel_rfl) (fun b20 w3 h3 => ⟨h3.drop, ?_⟩)
    refine ⟨?_, ?_⟩
    · refine app1 (A := []) (S := [(b20, cel [] T.t_uint32)]) (xs := rgs []) (n := 0) h3 (own0 b20) haG (fun y hy => .tail _ hy) (rgs_plain ws) und_slu info_u rfl (by rw [hrl]; exact hl1 _ (by omega)) (by rw [hrl]; omega) (fun S v1 w4 h4 ho4 => ⟨sub h4, ?_⟩)
      refine bs_rule h4 (rgs [77]) (by kernel_rfl) (fun b24 w5 h5 => ⟨sub (A := _ :: S) h5, ?_⟩)
      have h5' : Ow B w5 ([(b24, cel (rgs [77]) T.t_uint32)] ++ S ++ G) := h5
      refine app1 h5' ho4 (sl_here (l := rgs [77]) (.head _)) (H' := [(b24, cel (rgs [77]) T.t_uint32)]) (fun y hy => by rw [List.mem_singleton.1 hy]; exact .head _) (rgs_plain _) und_slu info_u rfl (by simp only [hrl]; exact hl1 _ (by simp [rgs]; omega)) (by simp [rgs]; omega) (fun S2 v2 wN h6 ho => ⟨sub (A := _ :: S2) h6, ?_⟩)
      have ho : Vc.Own S2 T.t_uint32 1 v2 (ws.length + 1) (rgs (ws ++ [77])) := by
        have e1 : rgs [] ++ rgs ws ++ rgs [77] = rgs (ws ++ [77]) := by simp [rgs]
        have e2 : 0 + (rgs ws).length + (rgs [77]).length = ws.length + 1 := by simp [rgs]
        rw [e1, e2] at ho; exact ho
      obtain ⟨Z, hZ⟩ : ∃ Z : Hp, Z = [(b24, cel (rgs [77]) T.t_uint32)] := ⟨_, rfl⟩
      have hN : Ow B wN (S2 ++ (Z ++ G)) := by
        have := h6.perm (H' := S2 ++ ([(b24, cel (rgs [77]) T.t_uint32)] ++ G)) (by rw [List.append_assoc]; exact List.perm_append_comm_assoc _ _ _)
        rw [hZ]; exact this
      clear h3 h4 h5 h5' h6 ho4 hZ
      obtain ⟨hol, ⟨_, _, hz⟩ | ⟨g, cap, l, rfl, rfl, hcap, hcm, hll, hlx⟩⟩ := ho
      · omega
      rw [Nat.mul_one] at hll hlx
      refine pu_cutH und_slu usz (by omega) (by omega) ?_
      rw [Int.toNat_natCast]
      have ecut : Vc.cut (.slice (some ⟨g, 0, none⟩) (ws.length + 1) cap) 0 ws.length cap = .slice (some ⟨g, 0, none⟩) ws.length cap := by
        simp only [Vc.cut]
        rw [if_neg (by omega)]
        simp [Addr.add]
      rw [ecut]
      have hA : Ow B wN ((g, cel l T.t_uint32) :: (Z ++ G)) := by
        have := hN.perm (List.perm_append_comm_assoc _ _ _)
        simpa using hN
      have hb : Sl ((g, cel l T.t_uint32) :: (Z ++ G)) (.slice (some ⟨g, 0, none⟩) ws.length cap) (rgs ws) := by
        refine ⟨some ⟨g, 0, none⟩, cap, by rw [hrl], by rw [hrl]; omega, fun j y hj => ⟨_, rfl, ?_⟩⟩
        rw [add_mk, Nat.zero_add]
        refine cell_here (.head _) ?_
        have hjl := (List.getElem?_eq_some_iff.1 hj).1
        rw [hrl] at hjl
        have h9 : (rgs (ws ++ [77]))[j]? = some y := by
          rw [← h77, List.getElem?_append_left (by omega)]; exact hj
        rw [← hlx, List.getElem?_take] at h9
        split at h9
        · exact h9
        · cases h9
      have h77' : l[ws.length]? = some (vU 77) := by
        have h9 : (rgs (ws ++ [77]))[ws.length]? = some (vU 77) := by
          rw [← h77, List.getElem?_append_right (by omega), hrl, Nat.sub_self]; rfl
        rw [← hlx, List.getElem?_take] at h9
        split at h9
        · exact h9
        · cases h9
      have mG : ∀ {A : Hp} {y}, y ∈ G → y ∈ A ++ ((g, cel l T.t_uint32) :: (Z ++ G)) := fun h => List.mem_append_right _ (.tail _ (List.mem_append_right _ h))
      have toG : ∀ {A : Hp} {w : World} {l : List Value}, Ow B w (A ++ ((g, cel l T.t_uint32) :: (Z ++ G))) → Ow B w G := fun h => h.sub (((List.sublist_append_right _ _).trans (List.sublist_cons_self _ _)).trans (List.sublist_append_right _ _))
      repeat (first | refine pu_not ?_ | refine pu_eql ?_ | refine pu_neq ?_ | refine pu_lss ?_ | refine pu_leq ?_ | refine pu_gtr ?_ | refine pu_geq ?_ | refine pu_add ?_ | refine pu_sub ?_ | refine pu_mul ?_ | refine pu_neg ?_ | refine fa_at ?_ | refine nl_ptr ?_ | refine ex20 ?_ | refine ex21 ?_ | refine ex30 ?_ | refine ex31 ?_ | refine ex32 ?_ | refine ln_rule ?_ | refine lnT_rule ?_ | refine pu_and ?_ | refine pu_or ?_ | refine pu_xor ?_ | refine pu_seq ?_ | refine pu_sne ?_)
      refine ldn_here hA (mG (A := []) m2) (vs := p.cells v) rfl rfl ?_
      repeat (first | refine pu_not ?_ | refine pu_eql ?_ | refine pu_neq ?_ | refine pu_lss ?_ | refine pu_leq ?_ | refine pu_gtr ?_ | refine pu_geq ?_ | refine pu_add ?_ | refine pu_sub ?_ | refine pu_mul ?_ | refine pu_neg ?_ | refine fa_at ?_ | refine nl_ptr ?_ | refine ex20 ?_ | refine ex21 ?_ | refine ex30 ?_ | refine ex31 ?_ | refine ex32 ?_ | refine ln_rule ?_ | refine lnT_rule ?_ | refine pu_and ?_ | refine pu_or ?_ | refine pu_xor ?_ | refine pu_seq ?_ | refine pu_sne ?_)
      refine ld_here hA (mG (A := []) m2) (v := vI x) rfl ?_
      -- the b's end is as it was, and what follows
      refine new_spec (X := (g, cel l T.t_uint32) :: (Z ++ G)) (hv.mono fun y hy => mG (A := []) (hX y hy)) hb (fun y hy => hy) (by omega) (by omega) hA (fun hb' w5 h5 => ?_) (fun hok hb' w5 h5 => ?_) (fun hok f hx0 hf hl s F w5 hres hfrs hs h5 => ?_)
      · have h5 : Ow B w5 ([] ++ ((g, cel l T.t_uint32) :: (Z ++ G))) := h5
        repeat (first | refine pu_not ?_ | refine pu_eql ?_ | refine pu_neq ?_ | refine pu_lss ?_ | refine pu_leq ?_ | refine pu_gtr ?_ | refine pu_geq ?_ | refine pu_add ?_ | refine pu_sub ?_ | refine pu_mul ?_ | refine pu_neg ?_ | refine fa_at ?_ | refine nl_ptr ?_ | refine ex20 ?_ | refine ex21 ?_ | refine ex30 ?_ | refine ex31 ?_ | refine ex32 ?_ | refine ln_rule ?_ | refine lnT_rule ?_ | refine pu_and ?_ | refine pu_or ?_ | refine pu_xor ?_ | refine pu_seq ?_ | refine pu_sne ?_)
        refine ldn_here h5 (mG m2) (vs := p.cells v) rfl rfl ?_
        repeat (first | refine pu_not ?_ | refine pu_eql ?_ | refine pu_neq ?_ | refine pu_lss ?_ | refine pu_leq ?_ | refine pu_gtr ?_ | refine pu_geq ?_ | refine pu_add ?_ | refine pu_sub ?_ | refine pu_mul ?_ | refine pu_neg ?_ | refine fa_at ?_ | refine nl_ptr ?_ | refine ex20 ?_ | refine ex21 ?_ | refine ex30 ?_ | refine ex31 ?_ | refine ex32 ?_ | refine ln_rule ?_ | refine lnT_rule ?_ | refine pu_and ?_ | refine pu_or ?_ | refine pu_xor ?_ | refine pu_seq ?_ | refine pu_sne ?_)
        refine ld_here h5 (mG m2) (v := vI x) rfl ?_
        repeat (first | refine pu_not ?_ | refine pu_eql ?_ | refine pu_neq ?_ | refine pu_lss ?_ | refine pu_leq ?_ | refine pu_gtr ?_ | refine pu_geq ?_ | refine pu_add ?_ | refine pu_sub ?_ | refine pu_mul ?_ | refine pu_neg ?_ | refine fa_at ?_ | refine nl_ptr ?_ | refine ex20 ?_ | refine ex21 ?_ | refine ex30 ?_ | refine ex31 ?_ | refine ex32 ?_ | refine ln_rule ?_ | refine lnT_rule ?_ | refine pu_and ?_ | refine pu_or ?_ | refine pu_xor ?_ | refine pu_seq ?_ | refine pu_sne ?_)
        refine ld_here h5 (mG m2) (v := a) rfl ?_
        refine new12_spec hv ha (fun y hy => mG (hX y hy)) (by omega) h5 (fun _ w6 h6 => ?_) (fun ho _ w6 h6 => by rw [hb'] at ho; cases ho) (fun ho f _ _ _ S c bx w6 hc h6 => by rw [hb'] at ho; cases ho)
        repeat (first | refine pu_not ?_ | refine pu_eql ?_ | refine pu_neq ?_ | refine pu_lss ?_ | refine pu_leq ?_ | refine pu_gtr ?_ | refine pu_geq ?_ | refine pu_add ?_ | refine pu_sub ?_ | refine pu_mul ?_ | refine pu_neg ?_ | refine fa_at ?_ | refine nl_ptr ?_ | refine ex20 ?_ | refine ex21 ?_ | refine ex30 ?_ | refine ex31 ?_ | refine ex32 ?_ | refine ln_rule ?_ | refine lnT_rule ?_ | refine pu_and ?_ | refine pu_or ?_ | refine pu_xor ?_ | refine pu_seq ?_ | refine pu_sne ?_)
        refine al_rule h6 (l := zref) zref_eq (fun b65 w7 h7 => ?_)
        refine st_here (A := []) h7 zref rfl rfl rfl (by simp) (fun w8 h8 => ?_)
        have h8 : Ow B w8 ([] ++ ((g, cel l T.t_uint32) :: (Z ++ G))) := Ow.drop h8
        refine num12_spec h8 (fun w9 h9 => ?_)
        repeat (first | refine pu_not ?_ | refine pu_eql ?_ | refine pu_neq ?_ | refine pu_lss ?_ | refine pu_leq ?_ | refine pu_gtr ?_ | refine pu_geq ?_ | refine pu_add ?_ | refine pu_sub ?_ | refine pu_mul ?_ | refine pu_neg ?_ | refine fa_at ?_ | refine nl_ptr ?_ | refine ex20 ?_ | refine ex21 ?_ | refine ex30 ?_ | refine ex31 ?_ | refine ex32 ?_ | refine ln_rule ?_ | refine lnT_rule ?_ | refine pu_and ?_ | refine pu_or ?_ | refine pu_xor ?_ | refine pu_seq ?_ | refine pu_sne ?_)
        refine cnd_f (by decide) ?_
        refine pu_pnnilS rfl ?_
        repeat (first | refine pu_not ?_ | refine pu_eql ?_ | refine pu_neq ?_ | refine pu_lss ?_ | refine pu_leq ?_ | refine pu_gtr ?_ | refine pu_geq ?_ | refine pu_add ?_ | refine pu_sub ?_ | refine pu_mul ?_ | refine pu_neg ?_ | refine fa_at ?_ | refine nl_ptr ?_ | refine ex20 ?_ | refine ex21 ?_ | refine ex30 ?_ | refine ex31 ?_ | refine ex32 ?_ | refine ln_rule ?_ | refine lnT_rule ?_ | refine pu_and ?_ | refine pu_or ?_ | refine pu_xor ?_ | refine pu_seq ?_ | refine pu_sne ?_)
        refine pu_bneq (by kernel_rfl) ?_
        refine cnd_f rfl ?_
        refine ln_rule ?_
        repeat (first | refine pu_not ?_ | refine pu_eql ?_ | refine pu_neq ?_ | refine pu_lss ?_ | refine pu_leq ?_ | refine pu_gtr ?_ | refine pu_geq ?_ | refine pu_add ?_ | refine pu_sub ?_ | refine pu_mul ?_ | refine pu_neg ?_ | refine fa_at ?_ | refine nl_ptr ?_ | refine ex20 ?_ | refine ex21 ?_ | refine ex30 ?_ | refine ex31 ?_ | refine ex32 ?_ | refine ln_rule ?_ | refine lnT_rule ?_ | refine pu_and ?_ | refine pu_or ?_ | refine pu_xor ?_ | refine pu_seq ?_ | refine pu_sne ?_)
        have e77 : IntKind.i64.wrap ((ws.length : Int) + 1) = ((ws.length + 1 : Nat) : Int) := by rw [wrap64_in (by omega) (by omega)]; omega
        rw [e77]
        refine pu_cutH und_slu usz (by omega) (by omega) ?_
        rw [Int.toNat_natCast]
        have ecut2 : Vc.cut (.slice (some ⟨g, 0, none⟩) ws.length cap) 0 (ws.length + 1) cap = .slice (some ⟨g, 0, none⟩) (ws.length + 1) cap := by
          simp only [Vc.cut]
          rw [if_neg (by omega)]
          simp [Addr.add]
        rw [ecut2]
        refine ln_rule ?_
        refine ixS_at (by omega) (by omega) ?_
        refine ld_here h9 (List.mem_append_right _ (.head _)) (v := vU 77) (by rw [Int.toNat_natCast, Nat.mul_one, Nat.zero_add]; exact h77') ?_
        repeat (first | refine pu_not ?_ | refine pu_eql ?_ | refine pu_neq ?_ | refine pu_lss ?_ | refine pu_leq ?_ | refine pu_gtr ?_ | refine pu_geq ?_ | refine pu_add ?_ | refine pu_sub ?_ | refine pu_mul ?_ | refine pu_neg ?_ | refine fa_at ?_ | refine nl_ptr ?_ | refine ex20 ?_ | refine ex21 ?_ | refine ex30 ?_ | refine ex31 ?_ | refine ex32 ?_ | refine ln_rule ?_ | refine lnT_rule ?_ | refine pu_and ?_ | refine pu_or ?_ | refine pu_xor ?_ | refine pu_seq ?_ | refine pu_sne ?_)
        refine cnd_f (by decide) ?_
        repeat (first | refine pu_not ?_ | refine pu_eql ?_ | refine pu_neq ?_ | refine pu_lss ?_ | refine pu_leq ?_ | refine pu_gtr ?_ | refine pu_geq ?_ | refine pu_add ?_ | refine pu_sub ?_ | refine pu_mul ?_ | refine pu_neg ?_ | refine fa_at ?_ | refine nl_ptr ?_ | refine ex20 ?_ | refine ex21 ?_ | refine ex30 ?_ | refine ex31 ?_ | refine ex32 ?_ | refine ln_rule ?_ | refine lnT_rule ?_ | refine pu_and ?_ | refine pu_or ?_ | refine pu_xor ?_ | refine pu_seq ?_ | refine pu_sne ?_)
        refine cnd_t (by decide) ?_
        exact works12_spec h9 (fun w' h' => kk _ (toG h'))
      · have h5 : Ow B w5 ([] ++ ((g, cel l T.t_uint32) :: (Z ++ G))) := h5
        repeat (first | refine pu_not ?_ | refine pu_eql ?_ | refine pu_neq ?_ | refine pu_lss ?_ | refine pu_leq ?_ | refine pu_gtr ?_ | refine pu_geq ?_ | refine pu_add ?_ | refine pu_sub ?_ | refine pu_mul ?_ | refine pu_neg ?_ | refine fa_at ?_ | refine nl_ptr ?_ | refine ex20 ?_ | refine ex21 ?_ | refine ex30 ?_ | refine ex31 ?_ | refine ex32 ?_ | refine ln_rule ?_ | refine lnT_rule ?_ | refine pu_and ?_ | refine pu_or ?_ | refine pu_xor ?_ | refine pu_seq ?_ | refine pu_sne ?_)
        refine ldn_here h5 (mG m2) (vs := p.cells v) rfl rfl ?_
        repeat (first | refine pu_not ?_ | refine pu_eql ?_ | refine pu_neq ?_ | refine pu_lss ?_ | refine pu_leq ?_ | refine pu_gtr ?_ | refine pu_geq ?_ | refine pu_add ?_ | refine pu_sub ?_ | refine pu_mul ?_ | refine pu_neg ?_ | refine fa_at ?_ | refine nl_ptr ?_ | refine ex20 ?_ | refine ex21 ?_ | refine ex30 ?_ | refine ex31 ?_ | refine ex32 ?_ | refine ln_rule ?_ | refine lnT_rule ?_ | refine pu_and ?_ | refine pu_or ?_ | refine pu_xor ?_ | refine pu_seq ?_ | refine pu_sne ?_)
        refine ld_here h5 (mG m2) (v := vI x) rfl ?_
        repeat (first | refine pu_not ?_ | refine pu_eql ?_ | refine pu_neq ?_ | refine pu_lss ?_ | refine pu_leq ?_ | refine pu_gtr ?_ | refine pu_geq ?_ | refine pu_add ?_ | refine pu_sub ?_ | refine pu_mul ?_ | refine pu_neg ?_ | refine fa_at ?_ | refine nl_ptr ?_ | refine ex20 ?_ | refine ex21 ?_ | refine ex30 ?_ | refine ex31 ?_ | refine ex32 ?_ | refine ln_rule ?_ | refine lnT_rule ?_ | refine pu_and ?_ | refine pu_or ?_ | refine pu_xor ?_ | refine pu_seq ?_ | refine pu_sne ?_)
        refine ld_here h5 (mG m2) (v := a) rfl ?_
        refine new12_spec hv ha (fun y hy => mG (hX y hy)) (by omega) h5 (fun ho w6 h6 => by rw [hok] at ho; cases ho) (fun _ _ w6 h6 => ?_) (fun ho f hx0 hf hl S c bx w6 hc h6 => absurd hl (hb' f hx0 hf))
        repeat (first | refine pu_not ?_ | refine pu_eql ?_ | refine pu_neq ?_ | refine pu_lss ?_ | refine pu_leq ?_ | refine pu_gtr ?_ | refine pu_geq ?_ | refine pu_add ?_ | refine pu_sub ?_ | refine pu_mul ?_ | refine pu_neg ?_ | refine fa_at ?_ | refine nl_ptr ?_ | refine ex20 ?_ | refine ex21 ?_ | refine ex30 ?_ | refine ex31 ?_ | refine ex32 ?_ | refine ln_rule ?_ | refine lnT_rule ?_ | refine pu_and ?_ | refine pu_or ?_ | refine pu_xor ?_ | refine pu_seq ?_ | refine pu_sne ?_)
        refine al_rule h6 (l := zref) zref_eq (fun b65 w7 h7 => ?_)
        refine st_here (A := []) h7 zref rfl rfl rfl (by simp) (fun w8 h8 => ?_)
        have h8 : Ow B w8 ([] ++ ((g, cel l T.t_uint32) :: (Z ++ G))) := Ow.drop h8
        refine num12_spec h8 (fun w9 h9 => ?_)
        repeat (first | refine pu_not ?_ | refine pu_eql ?_ | refine pu_neq ?_ | refine pu_lss ?_ | refine pu_leq ?_ | refine pu_gtr ?_ | refine pu_geq ?_ | refine pu_add ?_ | refine pu_sub ?_ | refine pu_mul ?_ | refine pu_neg ?_ | refine fa_at ?_ | refine nl_ptr ?_ | refine ex20 ?_ | refine ex21 ?_ | refine ex30 ?_ | refine ex31 ?_ | refine ex32 ?_ | refine ln_rule ?_ | refine lnT_rule ?_ | refine pu_and ?_ | refine pu_or ?_ | refine pu_xor ?_ | refine pu_seq ?_ | refine pu_sne ?_)
        refine cnd_f (by decide) ?_
        refine pu_pnnilS rfl ?_
        repeat (first | refine pu_not ?_ | refine pu_eql ?_ | refine pu_neq ?_ | refine pu_lss ?_ | refine pu_leq ?_ | refine pu_gtr ?_ | refine pu_geq ?_ | refine pu_add ?_ | refine pu_sub ?_ | refine pu_mul ?_ | refine pu_neg ?_ | refine fa_at ?_ | refine nl_ptr ?_ | refine ex20 ?_ | refine ex21 ?_ | refine ex30 ?_ | refine ex31 ?_ | refine ex32 ?_ | refine ln_rule ?_ | refine lnT_rule ?_ | refine pu_and ?_ | refine pu_or ?_ | refine pu_xor ?_ | refine pu_seq ?_ | refine pu_sne ?_)
        refine pu_bneq (by kernel_rfl) ?_
        refine cnd_f rfl ?_
        refine ln_rule ?_
        repeat (first | refine pu_not ?_ | refine pu_eql ?_ | refine pu_neq ?_ | refine pu_lss ?_ | refine pu_leq ?_ | refine pu_gtr ?_ | refine pu_geq ?_ | refine pu_add ?_ | refine pu_sub ?_ | refine pu_mul ?_ | refine pu_neg ?_ | refine fa_at ?_ | refine nl_ptr ?_ | refine ex20 ?_ | refine ex21 ?_ | refine ex30 ?_ | refine ex31 ?_ | refine ex32 ?_ | refine ln_rule ?_ | refine lnT_rule ?_ | refine pu_and ?_ | refine pu_or ?_ | refine pu_xor ?_ | refine pu_seq ?_ | refine pu_sne ?_)
        have e77 : IntKind.i64.wrap ((ws.length : Int) + 1) = ((ws.length + 1 : Nat) : Int) := by rw [wrap64_in (by omega) (by omega)]; omega
        rw [e77]
        refine pu_cutH und_slu usz (by omega) (by omega) ?_
        rw [Int.toNat_natCast]
        have ecut2 : Vc.cut (.slice (some ⟨g, 0, none⟩) ws.length cap) 0 (ws.length + 1) cap = .slice (some ⟨g, 0, none⟩) (ws.length + 1) cap := by
          simp only [Vc.cut]
          rw [if_neg (by omega)]
          simp [Addr.add]
        rw [ecut2]
        refine ln_rule ?_
        refine ixS_at (by omega) (by omega) ?_
        refine ld_here h9 (List.mem_append_right _ (.head _)) (v := vU 77) (by rw [Int.toNat_natCast, Nat.mul_one, Nat.zero_add]; exact h77') ?_
        repeat (first | refine pu_not ?_ | refine pu_eql ?_ | refine pu_neq ?_ | refine pu_lss ?_ | refine pu_leq ?_ | refine pu_gtr ?_ | refine pu_geq ?_ | refine pu_add ?_ | refine pu_sub ?_ | refine pu_mul ?_ | refine pu_neg ?_ | refine fa_at ?_ | refine nl_ptr ?_ | refine ex20 ?_ | refine ex21 ?_ | refine ex30 ?_ | refine ex31 ?_ | refine ex32 ?_ | refine ln_rule ?_ | refine lnT_rule ?_ | refine pu_and ?_ | refine pu_or ?_ | refine pu_xor ?_ | refine pu_seq ?_ | refine pu_sne ?_)
        refine cnd_f (by decide) ?_
        repeat (first | refine pu_not ?_ | refine pu_eql ?_ | refine pu_neq ?_ | refine pu_lss ?_ | refine pu_leq ?_ | refine pu_gtr ?_ | refine pu_geq ?_ | refine pu_add ?_ | refine pu_sub ?_ | refine pu_mul ?_ | refine pu_neg ?_ | refine fa_at ?_ | refine nl_ptr ?_ | refine ex20 ?_ | refine ex21 ?_ | refine ex30 ?_ | refine ex31 ?_ | refine ex32 ?_ | refine ln_rule ?_ | refine lnT_rule ?_ | refine pu_and ?_ | refine pu_or ?_ | refine pu_xor ?_ | refine pu_seq ?_ | refine pu_sne ?_)
        refine cnd_t (by decide) ?_
        exact works12_spec h9 (fun w' h' => kk _ (toG h'))
      · have h5 : Ow B w5 ((s.hp p ++ F) ++ ((g, cel l T.t_uint32) :: (Z ++ G))) := by simpa using h5
        repeat (first | refine pu_not ?_ | refine pu_eql ?_ | refine pu_neq ?_ | refine pu_lss ?_ | refine pu_leq ?_ | refine pu_gtr ?_ | refine pu_geq ?_ | refine pu_add ?_ | refine pu_sub ?_ | refine pu_mul ?_ | refine pu_neg ?_ | refine fa_at ?_ | refine nl_ptr ?_ | refine ex20 ?_ | refine ex21 ?_ | refine ex30 ?_ | refine ex31 ?_ | refine ex32 ?_ | refine ln_rule ?_ | refine lnT_rule ?_ | refine pu_and ?_ | refine pu_or ?_ | refine pu_xor ?_ | refine pu_seq ?_ | refine pu_sne ?_)
        refine ldn_here h5 (mG m2) (vs := p.cells v) rfl rfl ?_
        repeat (first | refine pu_not ?_ | refine pu_eql ?_ | refine pu_neq ?_ | refine pu_lss ?_ | refine pu_leq ?_ | refine pu_gtr ?_ | refine pu_geq ?_ | refine pu_add ?_ | refine pu_sub ?_ | refine pu_mul ?_ | refine pu_neg ?_ | refine fa_at ?_ | refine nl_ptr ?_ | refine ex20 ?_ | refine ex21 ?_ | refine ex30 ?_ | refine ex31 ?_ | refine ex32 ?_ | refine ln_rule ?_ | refine lnT_rule ?_ | refine pu_and ?_ | refine pu_or ?_ | refine pu_xor ?_ | refine pu_seq ?_ | refine pu_sne ?_)
        refine ld_here h5 (mG m2) (v := vI x) rfl ?_
        repeat (first | refine pu_not ?_ | refine pu_eql ?_ | refine pu_neq ?_ | refine pu_lss ?_ | refine pu_leq ?_ | refine pu_gtr ?_ | refine pu_geq ?_ | refine pu_add ?_ | refine pu_sub ?_ | refine pu_mul ?_ | refine pu_neg ?_ | refine fa_at ?_ | refine nl_ptr ?_ | refine ex20 ?_ | refine ex21 ?_ | refine ex30 ?_ | refine ex31 ?_ | refine ex32 ?_ | refine ln_rule ?_ | refine lnT_rule ?_ | refine pu_and ?_ | refine pu_or ?_ | refine pu_xor ?_ | refine pu_seq ?_ | refine pu_sne ?_)
        refine ld_here h5 (mG m2) (v := a) rfl ?_
        refine new12_spec hv ha (fun y hy => mG (hX y hy)) (by omega) h5 (fun ho w6 h6 => by rw [hok] at ho; cases ho) (fun _ hb' w6 h6 => absurd hl (hb' f hx0 hf)) (fun _ f' _ hf' _ S c bx w6 hc h6 => ?_)
        rw [hf] at hf'
        cases hf'
        have good := fs_good hv hok
        have hI : Inv p s.frs := by rw [hfrs]; exact Inv.beg good hf hl hau
        obtain ⟨C, hC⟩ : ∃ C : Hp, C = (bx, cel (frow (begF x.toNat f ws) c) T.t_api_Frame) :: (S ++ F) := ⟨_, rfl⟩
        repeat (first | refine pu_not ?_ | refine pu_eql ?_ | refine pu_neq ?_ | refine pu_lss ?_ | refine pu_leq ?_ | refine pu_gtr ?_ | refine pu_geq ?_ | refine pu_add ?_ | refine pu_sub ?_ | refine pu_mul ?_ | refine pu_neg ?_ | refine fa_at ?_ | refine nl_ptr ?_ | refine ex20 ?_ | refine ex21 ?_ | refine ex30 ?_ | refine ex31 ?_ | refine ex32 ?_ | refine ln_rule ?_ | refine lnT_rule ?_ | refine pu_and ?_ | refine pu_or ?_ | refine pu_xor ?_ | refine pu_seq ?_ | refine pu_sne ?_)
        refine al_rule h6 (l := zref) zref_eq (fun b65 w7 h7 => ?_)
        refine st_here (A := []) h7 (rsC p v (.slice (some ⟨bx, 0, none⟩) 1 1) 0) rfl rfl (by simp only [List.all_cons, fsIn.plain hv]; rfl) (by simp) (fun w8 h8 => ?_)
        simp only [List.take_zero, List.nil_append, Nat.zero_add, List.drop_succ_cons, List.drop_zero, List.drop_nil, List.append_nil] at h8
        have h8 : Ow B w8 ((s.hp p ++ ((b65, cel (rsC p v (.slice (some ⟨bx, 0, none⟩) 1 1) 0) T.t_linesmanref12_Stack) :: C)) ++ ((g, cel l T.t_uint32) :: (Z ++ G))) := by
          have h9 : Ow B w8 (((b65, cel (rsC p v (.slice (some ⟨bx, 0, none⟩) 1 1) 0) T.t_linesmanref12_Stack) :: (bx, cel (frow (begF x.toNat f ws) c) T.t_api_Frame) :: S) ++ (s.hp p ++ (F ++ ((g, cel l T.t_uint32) :: (Z ++ G))))) := by simpa using h8
          have h10 := h9.perm (List.perm_append_comm_assoc _ _ _)
          rw [hC]
          simpa using h10
        refine num12_spec h8 (fun w9 h9 => ?_)
        repeat (first | refine pu_not ?_ | refine pu_eql ?_ | refine pu_neq ?_ | refine pu_lss ?_ | refine pu_leq ?_ | refine pu_gtr ?_ | refine pu_geq ?_ | refine pu_add ?_ | refine pu_sub ?_ | refine pu_mul ?_ | refine pu_neg ?_ | refine fa_at ?_ | refine nl_ptr ?_ | refine ex20 ?_ | refine ex21 ?_ | refine ex30 ?_ | refine ex31 ?_ | refine ex32 ?_ | refine ln_rule ?_ | refine lnT_rule ?_ | refine pu_and ?_ | refine pu_or ?_ | refine pu_xor ?_ | refine pu_seq ?_ | refine pu_sne ?_)
        refine cnd_f (by decide) ?_
        refine pu_pnnilS rfl ?_
        repeat (first | refine pu_not ?_ | refine pu_eql ?_ | refine pu_neq ?_ | refine pu_lss ?_ | refine pu_leq ?_ | refine pu_gtr ?_ | refine pu_geq ?_ | refine pu_add ?_ | refine pu_sub ?_ | refine pu_mul ?_ | refine pu_neg ?_ | refine fa_at ?_ | refine nl_ptr ?_ | refine ex20 ?_ | refine ex21 ?_ | refine ex30 ?_ | refine ex31 ?_ | refine ex32 ?_ | refine ln_rule ?_ | refine lnT_rule ?_ | refine pu_and ?_ | refine pu_or ?_ | refine pu_xor ?_ | refine pu_seq ?_ | refine pu_sne ?_)
        refine pu_bneq (by kernel_rfl) ?_
        refine cnd_f rfl ?_
        refine ln_rule ?_
        repeat (first | refine pu_not ?_ | refine pu_eql ?_ | refine pu_neq ?_ | refine pu_lss ?_ | refine pu_leq ?_ | refine pu_gtr ?_ | refine pu_geq ?_ | refine pu_add ?_ | refine pu_sub ?_ | refine pu_mul ?_ | refine pu_neg ?_ | refine fa_at ?_ | refine nl_ptr ?_ | refine ex20 ?_ | refine ex21 ?_ | refine ex30 ?_ | refine ex31 ?_ | refine ex32 ?_ | refine ln_rule ?_ | refine lnT_rule ?_ | refine pu_and ?_ | refine pu_or ?_ | refine pu_xor ?_ | refine pu_seq ?_ | refine pu_sne ?_)
        have e77 : IntKind.i64.wrap ((ws.length : Int) + 1) = ((ws.length + 1 : Nat) : Int) := by rw [wrap64_in (by omega) (by omega)]; omega
        rw [e77]
        refine pu_cutH und_slu usz (by omega) (by omega) ?_
        rw [Int.toNat_natCast]
        have ecut2 : Vc.cut (.slice (some ⟨g, 0, none⟩) ws.length cap) 0 (ws.length + 1) cap = .slice (some ⟨g, 0, none⟩) (ws.length + 1) cap := by
          simp only [Vc.cut]
          rw [if_neg (by omega)]
          simp [Addr.add]
        rw [ecut2]
        refine ln_rule ?_
        refine ixS_at (by omega) (by omega) ?_
        refine ld_here h9 (List.mem_append_right _ (.head _)) (v := vU 77) (by rw [Int.toNat_natCast, Nat.mul_one, Nat.zero_add]; exact h77') ?_
        repeat (first | refine pu_not ?_ | refine pu_eql ?_ | refine pu_neq ?_ | refine pu_lss ?_ | refine pu_leq ?_ | refine pu_gtr ?_ | refine pu_geq ?_ | refine pu_add ?_ | refine pu_sub ?_ | refine pu_mul ?_ | refine pu_neg ?_ | refine fa_at ?_ | refine nl_ptr ?_ | refine ex20 ?_ | refine ex21 ?_ | refine ex30 ?_ | refine ex31 ?_ | refine ex32 ?_ | refine ln_rule ?_ | refine lnT_rule ?_ | refine pu_and ?_ | refine pu_or ?_ | refine pu_xor ?_ | refine pu_seq ?_ | refine pu_sne ?_)
        refine cnd_f (by decide) ?_
        repeat (first | refine pu_not ?_ | refine pu_eql ?_ | refine pu_neq ?_ | refine pu_lss ?_ | refine pu_leq ?_ | refine pu_gtr ?_ | refine pu_geq ?_ | refine pu_add ?_ | refine pu_sub ?_ | refine pu_mul ?_ | refine pu_neg ?_ | refine fa_at ?_ | refine nl_ptr ?_ | refine ex20 ?_ | refine ex21 ?_ | refine ex30 ?_ | refine ex31 ?_ | refine ex32 ?_ | refine ln_rule ?_ | refine lnT_rule ?_ | refine pu_and ?_ | refine pu_or ?_ | refine pu_xor ?_ | refine pu_seq ?_ | refine pu_sne ?_)
        refine cnd_f (by decide) ?_
        refine ⟨fun t w => ∃ (n : Nat) (l' : List Value), t = [vI n] ∧ n ≤ ws.length ∧ l'.length = cap ∧ Ow B w ((s.hp p ++ ((b65, cel (rsC p v (.slice (some ⟨bx, 0, none⟩) 1 1) 0) T.t_linesmanref12_Stack) :: C)) ++ ((g, cel l' T.t_uint32) :: (Z ++ G))), fun t _ => match t with | [.int _ n] => ws.length - n.toNat | _ => 0, ⟨0, l, rfl, Nat.zero_le _, hll, h9⟩, ?_⟩
        rintro t w10 ⟨n, l', rfl, hn, hl', h10⟩ j
        repeat (first | refine pu_not ?_ | refine pu_eql ?_ | refine pu_neq ?_ | refine pu_lss ?_ | refine pu_leq ?_ | refine pu_gtr ?_ | refine pu_geq ?_ | refine pu_add ?_ | refine pu_sub ?_ | refine pu_mul ?_ | refine pu_neg ?_ | refine fa_at ?_ | refine nl_ptr ?_ | refine ex20 ?_ | refine ex21 ?_ | refine ex30 ?_ | refine ex31 ?_ | refine ex32 ?_ | refine ln_rule ?_ | refine lnT_rule ?_ | refine pu_and ?_ | refine pu_or ?_ | refine pu_xor ?_ | refine pu_seq ?_ | refine pu_sne ?_)
        refine cnd (fun hlt => ?_) (fun hlt => ?_)
        · have hlt : n < ws.length := by simpa using hlt
          refine ixS_at (by omega) (by omega) ?_
          refine st1_here h10 rfl rfl (by simp; omega) (fun w11 h11 => ?_)
          repeat (first | refine pu_not ?_ | refine pu_eql ?_ | refine pu_neq ?_ | refine pu_lss ?_ | refine pu_leq ?_ | refine pu_gtr ?_ | refine pu_geq ?_ | refine pu_add ?_ | refine pu_sub ?_ | refine pu_mul ?_ | refine pu_neg ?_ | refine fa_at ?_ | refine nl_ptr ?_ | refine ex20 ?_ | refine ex21 ?_ | refine ex30 ?_ | refine ex31 ?_ | refine ex32 ?_ | refine ln_rule ?_ | refine lnT_rule ?_ | refine pu_and ?_ | refine pu_or ?_ | refine pu_xor ?_ | refine pu_seq ?_ | refine pu_sne ?_)
          rw [wrap64_in (by omega) (by omega)]
          exact ⟨⟨n + 1, _, rfl, hlt, by rw [List.length_set]; exact hl', h11⟩, by simp; omega⟩
        · have h10 : Ow B w10 (s.hp p ++ (((b65, cel (rsC p v (.slice (some ⟨bx, 0, none⟩) 1 1) 0) T.t_linesmanref12_Stack) :: C) ++ ((g, cel l' T.t_uint32) :: (Z ++ G)))) := by simpa using h10
          refine ldn_here h10 (List.mem_append_right _ (.head _)) (vs := rsC p v (.slice (some ⟨bx, 0, none⟩) 1 1) 0) rfl rfl ?_
          have inC : ∀ {y}, y ∈ C → y ∈ ((b65, cel (rsC p v (.slice (some ⟨bx, 0, none⟩) 1 1) 0) T.t_linesmanref12_Stack) :: C) ++ ((g, cel l' T.t_uint32) :: (Z ++ G)) := fun h => List.mem_append_left _ (.tail _ h)
          have hres' : (0 : Int) = s.res := hres.symm
          have garg : ∀ {X : Prop}, (callW PG N.linesmanlaw12_is [ptr s.b, .agg (rsC p v (oneL bx) s.res).toArray, vI 2] (fun t108 w109 => condV t108 (callW PG N.linesmanlaw12_works [] K PK w109) (K (vB false) w109)) PK w10) → (callW PG N.linesmanlaw12_is [ptr s.b, .agg (rsC p v (oneL bx) 0).toArray, vI 2] (fun t108 w109 => condV t108 (callW PG N.linesmanlaw12_works [] K PK w109) (K (vB false) w109)) PK w10) := fun h => by rw [hres]at h; exact h
          refine garg (X := True) ?_
          refine is12_spec (m := begF x.toNat f ws) (c := c) good hI hfrs hs (fun y hy => inC (by rw [hC]; exact .tail _ (List.mem_append_right _ hy))) (inC (by rw [hC]; exact .head _)) ((Vc.Own.sl hc).mono fun y hy => inC (by rw [hC]; exact .tail _ (List.mem_append_left _ hy))) (hv.mono fun y hy => List.mem_append_right _ (.tail _ (List.mem_append_right _ (hX y hy)))) h10 (fun w11 h11 => ?_)
          refine cnd_t rfl ?_
          exact works12_spec h11 (fun w' h' => kk _ (toG (A := s.hp p ++ ((b65, cel (rsC p v (.slice (some ⟨bx, 0, none⟩) 1 1) 0) T.t_linesmanref12_Stack) :: C)) (by simpa using h')))
    · refine bs_rule h3 (rgs [77]) (by kernel_rfl) (fun b24 w4 h4 => ⟨Ow.drop (Ow.drop h4), ?_⟩)
      have h4' : Ow B w4 ([(b24, cel (rgs [77]) T.t_uint32)] ++ [(b20, cel [] T.t_uint32)] ++ G) := h4
      refine app1 (xs := rgs []) (n := 0) h4' (own0 b20) haG (fun y hy => List.mem_append_right _ hy) (rgs_plain ws) und_slu info_u rfl (by rw [hrl]; exact hl1 _ (by omega)) (by rw [hrl]; omega) (fun S v1 w5 h5' ho4 => ⟨sub (A := _ :: S) h5', ?_⟩)
      refine app1 h5' ho4 (sl_here (l := rgs [77]) (.head _)) (H' := [(b24, cel (rgs [77]) T.t_uint32)]) (fun y hy => by rw [List.mem_singleton.1 hy]; exact .head _) (rgs_plain _) und_slu info_u rfl (by simp only [hrl]; exact hl1 _ (by simp [rgs]; omega)) (by simp [rgs]; omega) (fun S2 v2 wN h6 ho => ⟨sub (A := _ :: S2) h6, ?_⟩)
      have ho : Vc.Own S2 T.t_uint32 1 v2 (ws.length + 1) (rgs (ws ++ [77])) := by
        have e1 : rgs [] ++ rgs ws ++ rgs [77] = rgs (ws ++ [77]) := by simp [rgs]
        have e2 : 0 + (rgs ws).length + (rgs [77]).length = ws.length + 1 := by simp [rgs]
        rw [e1, e2] at ho; exact ho
      obtain ⟨Z, hZ⟩ : ∃ Z : Hp, Z = [(b24, cel (rgs [77]) T.t_uint32)] := ⟨_, rfl⟩
      have hN : Ow B wN (S2 ++ (Z ++ G)) := by
        have := h6.perm (H' := S2 ++ ([(b24, cel (rgs [77]) T.t_uint32)] ++ G)) (by rw [List.append_assoc]; exact List.perm_append_comm_assoc _ _ _)
        rw [hZ]; exact this
      clear h3 h4 h4' h5' h6 ho4 hZ
      obtain ⟨hol, ⟨_, _, hz⟩ | ⟨g, cap, l, rfl, rfl, hcap, hcm, hll, hlx⟩⟩ := ho
      · omega
      rw [Nat.mul_one] at hll hlx
      refine pu_cutH und_slu usz (by omega) (by omega) ?_
      rw [Int.toNat_natCast]
      have ecut : Vc.cut (.slice (some ⟨g, 0, none⟩) (ws.length + 1) cap) 0 ws.length cap = .slice (some ⟨g, 0, none⟩) ws.length cap := by
        simp only [Vc.cut]
        rw [if_neg (by omega)]
        simp [Addr.add]
      rw [ecut]
      have hA : Ow B wN ((g, cel l T.t_uint32) :: (Z ++ G)) := by
        have := hN.perm (List.perm_append_comm_assoc _ _ _)
        simpa using hN
      have hb : Sl ((g, cel l T.t_uint32) :: (Z ++ G)) (.slice (some ⟨g, 0, none⟩) ws.length cap) (rgs ws) := by
        refine ⟨some ⟨g, 0, none⟩, cap, by rw [hrl], by rw [hrl]; omega, fun j y hj => ⟨_, rfl, ?_⟩⟩
        rw [add_mk, Nat.zero_add]
        refine cell_here (.head _) ?_
        have hjl := (List.getElem?_eq_some_iff.1 hj).1
        rw [hrl] at hjl
        have h9 : (rgs (ws ++ [77]))[j]? = some y := by
          rw [← h77, List.getElem?_append_left (by omega)]; exact hj
        rw [← hlx, List.getElem?_take] at h9
        split at h9
        · exact h9
        · cases h9
      have h77' : l[ws.length]? = some (vU 77) := by
        have h9 : (rgs (ws ++ [77]))[ws.length]? = some (vU 77) := by
          rw [← h77, List.getElem?_append_right (by omega), hrl, Nat.sub_self]; rfl
        rw [← hlx, List.getElem?_take] at h9
        split at h9
        · exact h9
        · cases h9
      have mG : ∀ {A : Hp} {y}, y ∈ G → y ∈ A ++ ((g, cel l T.t_uint32) :: (Z ++ G)) := fun h => List.mem_append_right _ (.tail _ (List.mem_append_right _ h))
      have toG : ∀ {A : Hp} {w : World} {l : List Value}, Ow B w (A ++ ((g, cel l T.t_uint32) :: (Z ++ G))) → Ow B w G := fun h => h.sub (((List.sublist_append_right _ _).trans (List.sublist_cons_self _ _)).trans (List.sublist_append_right _ _))
      repeat (first | refine pu_not ?_ | refine pu_eql ?_ | refine pu_neq ?_ | refine pu_lss ?_ | refine pu_leq ?_ | refine pu_gtr ?_ | refine pu_geq ?_ | refine pu_add ?_ | refine pu_sub ?_ | refine pu_mul ?_ | refine pu_neg ?_ | refine fa_at ?_ | refine nl_ptr ?_ | refine ex20 ?_ | refine ex21 ?_ | refine ex30 ?_ | refine ex31 ?_ | refine ex32 ?_ | refine ln_rule ?_ | refine lnT_rule ?_ | refine pu_and ?_ | refine pu_or ?_ | refine pu_xor ?_ | refine pu_seq ?_ | refine pu_sne ?_)
      refine ldn_here hA (mG (A := []) m2) (vs := p.cells v) rfl rfl ?_
      repeat (first | refine pu_not ?_ | refine pu_eql ?_ | refine pu_neq ?_ | refine pu_lss ?_ | refine pu_leq ?_ | refine pu_gtr ?_ | refine pu_geq ?_ | refine pu_add ?_ | refine pu_sub ?_ | refine pu_mul ?_ | refine pu_neg ?_ | refine fa_at ?_ | refine nl_ptr ?_ | refine ex20 ?_ | refine ex21 ?_ | refine ex30 ?_ | refine ex31 ?_ | refine ex32 ?_ | refine ln_rule ?_ | refine lnT_rule ?_ | refine pu_and ?_ | refine pu_or ?_ | refine pu_xor ?_ | refine pu_seq ?_ | refine pu_sne ?_)
      refine ld_here hA (mG (A := []) m2) (v := vI x) rfl ?_
      -- the b's end is as it was, and what follows
      refine new_spec (X := (g, cel l T.t_uint32) :: (Z ++ G)) (hv.mono fun y hy => mG (A := []) (hX y hy)) hb (fun y hy => hy) (by omega) (by omega) hA (fun hb' w5 h5 => ?_) (fun hok hb' w5 h5 => ?_) (fun hok f hx0 hf hl s F w5 hres hfrs hs h5 => ?_)
      · have h5 : Ow B w5 ([] ++ ((g, cel l T.t_uint32) :: (Z ++ G))) := h5
        repeat (first | refine pu_not ?_ | refine pu_eql ?_ | refine pu_neq ?_ | refine pu_lss ?_ | refine pu_leq ?_ | refine pu_gtr ?_ | refine pu_geq ?_ | refine pu_add ?_ | refine pu_sub ?_ | refine pu_mul ?_ | refine pu_neg ?_ | refine fa_at ?_ | refine nl_ptr ?_ | refine ex20 ?_ | refine ex21 ?_ | refine ex30 ?_ | refine ex31 ?_ | refine ex32 ?_ | refine ln_rule ?_ | refine lnT_rule ?_ | refine pu_and ?_ | refine pu_or ?_ | refine pu_xor ?_ | refine pu_seq ?_ | refine pu_sne ?_)
        refine ldn_here h5 (mG m2) (vs := p.cells v) rfl rfl ?_
        repeat (first | refine pu_not ?_ | refine pu_eql ?_ | refine pu_neq ?_ | refine pu_lss ?_ | refine pu_leq ?_ | refine pu_gtr ?_ | refine pu_geq ?_ | refine pu_add ?_ | refine pu_sub ?_ | refine pu_mul ?_ | refine pu_neg ?_ | refine fa_at ?_ | refine nl_ptr ?_ | refine ex20 ?_ | refine ex21 ?_ | refine ex30 ?_ | refine ex31 ?_ | refine ex32 ?_ | refine ln_rule ?_ | refine lnT_rule ?_ | refine pu_and ?_ | refine pu_or ?_ | refine pu_xor ?_ | refine pu_seq ?_ | refine pu_sne ?_)
        refine ld_here h5 (mG m2) (v := vI x) rfl ?_
        repeat (first | refine pu_not ?_ | refine pu_eql ?_ | refine pu_neq ?_ | refine pu_lss ?_ | refine pu_leq ?_ | refine pu_gtr ?_ | refine pu_geq ?_ | refine pu_add ?_ | refine pu_sub ?_ | refine pu_mul ?_ | refine pu_neg ?_ | refine fa_at ?_ | refine nl_ptr ?_ | refine ex20 ?_ | refine ex21 ?_ | refine ex30 ?_ | refine ex31 ?_ | refine ex32 ?_ | refine ln_rule ?_ | refine lnT_rule ?_ | refine pu_and ?_ | refine pu_or ?_ | refine pu_xor ?_ | refine pu_seq ?_ | refine pu_sne ?_)
        refine ld_here h5 (mG m2) (v := a) rfl ?_
        refine new12_spec hv ha (fun y hy => mG (hX y hy)) (by omega) h5 (fun _ w6 h6 => ?_) (fun ho _ w6 h6 => by rw [hb'] at ho; cases ho) (fun ho f _ _ _ S c bx w6 hc h6 => by rw [hb'] at ho; cases ho)
        repeat (first | refine pu_not ?_ | refine pu_eql ?_ | refine pu_neq ?_ | refine pu_lss ?_ | refine pu_leq ?_ | refine pu_gtr ?_ | refine pu_geq ?_ | refine pu_add ?_ | refine pu_sub ?_ | refine pu_mul ?_ | refine pu_neg ?_ | refine fa_at ?_ | refine nl_ptr ?_ | refine ex20 ?_ | refine ex21 ?_ | refine ex30 ?_ | refine ex31 ?_ | refine ex32 ?_ | refine ln_rule ?_ | refine lnT_rule ?_ | refine pu_and ?_ | refine pu_or ?_ | refine pu_xor ?_ | refine pu_seq ?_ | refine pu_sne ?_)
        refine al_rule h6 (l := zref) zref_eq (fun b65 w7 h7 => ?_)
        refine st_here (A := []) h7 zref rfl rfl rfl (by simp) (fun w8 h8 => ?_)
        have h8 : Ow B w8 ([] ++ ((g, cel l T.t_uint32) :: (Z ++ G))) := Ow.drop h8
        refine num12_spec h8 (fun w9 h9 => ?_)
        repeat (first | refine pu_not ?_ | refine pu_eql ?_ | refine pu_neq ?_ | refine pu_lss ?_ | refine pu_leq ?_ | refine pu_gtr ?_ | refine pu_geq ?_ | refine pu_add ?_ | refine pu_sub ?_ | refine pu_mul ?_ | refine pu_neg ?_ | refine fa_at ?_ | refine nl_ptr ?_ | refine ex20 ?_ | refine ex21 ?_ | refine ex30 ?_ | refine ex31 ?_ | refine ex32 ?_ | refine ln_rule ?_ | refine lnT_rule ?_ | refine pu_and ?_ | refine pu_or ?_ | refine pu_xor ?_ | refine pu_seq ?_ | refine pu_sne ?_)
        refine cnd_f (by decide) ?_
        refine pu_pnnilS rfl ?_
        repeat (first | refine pu_not ?_ | refine pu_eql ?_ | refine pu_neq ?_ | refine pu_lss ?_ | refine pu_leq ?_ | refine pu_gtr ?_ | refine pu_geq ?_ | refine pu_add ?_ | refine pu_sub ?_ | refine pu_mul ?_ | refine pu_neg ?_ | refine fa_at ?_ | refine nl_ptr ?_ | refine ex20 ?_ | refine ex21 ?_ | refine ex30 ?_ | refine ex31 ?_ | refine ex32 ?_ | refine ln_rule ?_ | refine lnT_rule ?_ | refine pu_and ?_ | refine pu_or ?_ | refine pu_xor ?_ | refine pu_seq ?_ | refine pu_sne ?_)
        refine pu_bneq (by kernel_rfl) ?_
        refine cnd_f rfl ?_
        refine ln_rule ?_
        repeat (first | refine pu_not ?_ | refine pu_eql ?_ | refine pu_neq ?_ | refine pu_lss ?_ | refine pu_leq ?_ | refine pu_gtr ?_ | refine pu_geq ?_ | refine pu_add ?_ | refine pu_sub ?_ | refine pu_mul ?_ | refine pu_neg ?_ | refine fa_at ?_ | refine nl_ptr ?_ | refine ex20 ?_ | refine ex21 ?_ | refine ex30 ?_ | refine ex31 ?_ | refine ex32 ?_ | refine ln_rule ?_ | refine lnT_rule ?_ | refine pu_and ?_ | refine pu_or ?_ | refine pu_xor ?_ | refine pu_seq ?_ | refine pu_sne ?_)
        have e77 : IntKind.i64.wrap ((ws.length : Int) + 1) = ((ws.length + 1 : Nat) : Int) := by rw [wrap64_in (by omega) (by omega)]; omega
        rw [e77]
        refine pu_cutH und_slu usz (by omega) (by omega) ?_
        rw [Int.toNat_natCast]
        have ecut2 : Vc.cut (.slice (some ⟨g, 0, none⟩) ws.length cap) 0 (ws.length + 1) cap = .slice (some ⟨g, 0, none⟩) (ws.length + 1) cap := by
          simp only [Vc.cut]
          rw [if_neg (by omega)]
          simp [Addr.add]
        rw [ecut2]
        refine ln_rule ?_
        refine ixS_at (by omega) (by omega) ?_
        refine ld_here h9 (List.mem_append_right _ (.head _)) (v := vU 77) (by rw [Int.toNat_natCast, Nat.mul_one, Nat.zero_add]; exact h77') ?_
        repeat (first | refine pu_not ?_ | refine pu_eql ?_ | refine pu_neq ?_ | refine pu_lss ?_ | refine pu_leq ?_ | refine pu_gtr ?_ | refine pu_geq ?_ | refine pu_add ?_ | refine pu_sub ?_ | refine pu_mul ?_ | refine pu_neg ?_ | refine fa_at ?_ | refine nl_ptr ?_ | refine ex20 ?_ | refine ex21 ?_ | refine ex30 ?_ | refine ex31 ?_ | refine ex32 ?_ | refine ln_rule ?_ | refine lnT_rule ?_ | refine pu_and ?_ | refine pu_or ?_ | refine pu_xor ?_ | refine pu_seq ?_ | refine pu_sne ?_)
        refine cnd_f (by decide) ?_
        repeat (first | refine pu_not ?_ | refine pu_eql ?_ | refine pu_neq ?_ | refine pu_lss ?_ | refine pu_leq ?_ | refine pu_gtr ?_ | refine pu_geq ?_ | refine pu_add ?_ | refine pu_sub ?_ | refine pu_mul ?_ | refine pu_neg ?_ | refine fa_at ?_ | refine nl_ptr ?_ | refine ex20 ?_ | refine ex21 ?_ | refine ex30 ?_ | refine ex31 ?_ | refine ex32 ?_ | refine ln_rule ?_ | refine lnT_rule ?_ | refine pu_and ?_ | refine pu_or ?_ | refine pu_xor ?_ | refine pu_seq ?_ | refine pu_sne ?_)
        refine cnd_t (by decide) ?_
        exact works12_spec h9 (fun w' h' => kk _ (toG h'))
      · have h5 : Ow B w5 ([] ++ ((g, cel l T.t_uint32) :: (Z ++ G))) := h5
        repeat (first | refine pu_not ?_ | refine pu_eql ?_ | refine pu_neq ?_ | refine pu_lss ?_ | refine pu_leq ?_ | refine pu_gtr ?_ | refine pu_geq ?_ | refine pu_add ?_ | refine pu_sub ?_ | refine pu_mul ?_ | refine pu_neg ?_ | refine fa_at ?_ | refine nl_ptr ?_ | refine ex20 ?_ | refine ex21 ?_ | refine ex30 ?_ | refine ex31 ?_ | refine ex32 ?_ | refine ln_rule ?_ | refine lnT_rule ?_ | refine pu_and ?_ | refine pu_or ?_ | refine pu_xor ?_ | refine pu_seq ?_ | refine pu_sne ?_)
        refine ldn_here h5 (mG m2) (vs := p.cells v) rfl rfl ?_
        repeat (first | refine pu_not ?_ | refine pu_eql ?_ | refine pu_neq ?_ | refine pu_lss ?_ | refine pu_leq ?_ | refine pu_gtr ?_ | refine pu_geq ?_ | refine pu_add ?_ | refine pu_sub ?_ | refine pu_mul ?_ | refine pu_neg ?_ | refine fa_at ?_ | refine nl_ptr ?_ | refine ex20 ?_ | refine ex21 ?_ | refine ex30 ?_ | refine ex31 ?_ | refine ex32 ?_ | refine ln_rule ?_ | refine lnT_rule ?_ | refine pu_and ?_ | refine pu_or ?_ | refine pu_xor ?_ | refine pu_seq ?_ | refine pu_sne ?_)
        refine ld_here h5 (mG m2) (v := vI x) rfl ?_
        repeat (first | refine pu_not ?_ | refine pu_eql ?_ | refine pu_neq ?_ | refine pu_lss ?_ | refine pu_leq ?_ | refine pu_gtr ?_ | refine pu_geq ?_ | refine pu_add ?_ | refine pu_sub ?_ | refine pu_mul ?_ | refine pu_neg ?_ | refine fa_at ?_ | refine nl_ptr ?_ | refine ex20 ?_ | refine ex21 ?_ | refine ex30 ?_ | refine ex31 ?_ | refine ex32 ?_ | refine ln_rule ?_ | refine lnT_rule ?_ | refine pu_and ?_ | refine pu_or ?_ | refine pu_xor ?_ | refine pu_seq ?_ | refine pu_sne ?_)
        refine ld_here h5 (mG m2) (v := a) rfl ?_
        refine new12_spec hv ha (fun y hy => mG (hX y hy)) (by omega) h5 (fun ho w6 h6 => by rw [hok] at ho; cases ho) (fun _ _ w6 h6 => ?_) (fun ho f hx0 hf hl S c bx w6 hc h6 => absurd hl (hb' f hx0 hf))
        repeat (first | refine pu_not ?_ | refine pu_eql ?_ | refine pu_neq ?_ | refine pu_lss ?_ | refine pu_leq ?_ | refine pu_gtr ?_ | refine pu_geq ?_ | refine pu_add ?_ | refine pu_sub ?_ | refine pu_mul ?_ | refine pu_neg ?_ | refine fa_at ?_ | refine nl_ptr ?_ | refine ex20 ?_ | refine ex21 ?_ | refine ex30 ?_ | refine ex31 ?_ | refine ex32 ?_ | refine ln_rule ?_ | refine lnT_rule ?_ | refine pu_and ?_ | refine pu_or ?_ | refine pu_xor ?_ | refine pu_seq ?_ | refine pu_sne ?_)
        refine al_rule h6 (l := zref) zref_eq (fun b65 w7 h7 => ?_)
        refine st_here (A := []) h7 zref rfl rfl rfl (by simp) (fun w8 h8 => ?_)
        have h8 : Ow B w8 ([] ++ ((g, cel l T.t_uint32) :: (Z ++ G))) := Ow.drop h8
        refine num12_spec h8 (fun w9 h9 => ?_)
        repeat (first | refine pu_not ?_ | refine pu_eql ?_ | refine pu_neq ?_ | refine pu_lss ?_ | refine pu_leq ?_ | refine pu_gtr ?_ | refine pu_geq ?_ | refine pu_add ?_ | refine pu_sub ?_ | refine pu_mul ?_ | refine pu_neg ?_ | refine fa_at ?_ | refine nl_ptr ?_ | refine ex20 ?_ | refine ex21 ?_ | refine ex30 ?_ | refine ex31 ?_ | refine ex32 ?_ | refine ln_rule ?_ | refine lnT_rule ?_ | refine pu_and ?_ | refine pu_or ?_ | refine pu_xor ?_ | refine pu_seq ?_ | refine pu_sne ?_)
        refine cnd_f (by decide) ?_
        refine pu_pnnilS rfl ?_
        repeat (first | refine pu_not ?_ | refine pu_eql ?_ | refine pu_neq ?_ | refine pu_lss ?_ | refine pu_leq ?_ | refine pu_gtr ?_ | refine pu_geq ?_ | refine pu_add ?_ | refine pu_sub ?_ | refine pu_mul ?_ | refine pu_neg ?_ | refine fa_at ?_ | refine nl_ptr ?_ | refine ex20 ?_ | refine ex21 ?_ | refine ex30 ?_ | refine ex31 ?_ | refine ex32 ?_ | refine ln_rule ?_ | refine lnT_rule ?_ | refine pu_and ?_ | refine pu_or ?_ | refine pu_xor ?_ | refine pu_seq ?_ | refine pu_sne ?_)
        refine pu_bneq (by kernel_rfl) ?_
        refine cnd_f rfl ?_
        refine ln_rule ?_
        repeat (first | refine pu_not ?_ | refine pu_eql ?_ | refine pu_neq ?_ | refine pu_lss ?_ | refine pu_leq ?_ | refine pu_gtr ?_ | refine pu_geq ?_ | refine pu_add ?_ | refine pu_sub ?_ | refine pu_mul ?_ | refine pu_neg ?_ | refine fa_at ?_ | refine nl_ptr ?_ | refine ex20 ?_ | refine ex21 ?_ | refine ex30 ?_ | refine ex31 ?_ | refine ex32 ?_ | refine ln_rule ?_ | refine lnT_rule ?_ | refine pu_and ?_ | refine pu_or ?_ | refine pu_xor ?_ | refine pu_seq ?_ | refine pu_sne ?_)
        have e77 : IntKind.i64.wrap ((ws.length : Int) + 1) = ((ws.length + 1 : Nat) : Int) := by rw [wrap64_in (by omega) (by omega)]; omega
        rw [e77]
        refine pu_cutH und_slu usz (by omega) (by omega) ?_
        rw [Int.toNat_natCast]
        have ecut2 : Vc.cut (.slice (some ⟨g, 0, none⟩) ws.length cap) 0 (ws.length + 1) cap = .slice (some ⟨g, 0, none⟩) (ws.length + 1) cap := by
          simp only [Vc.cut]
          rw [if_neg (by omega)]
          simp [Addr.add]
        rw [ecut2]
        refine ln_rule ?_
        refine ixS_at (by omega) (by omega) ?_
        refine ld_here h9 (List.mem_append_right _ (.head _)) (v := vU 77) (by rw [Int.toNat_natCast, Nat.mul_one, Nat.zero_add]; exact h77') ?_
        repeat (first | refine pu_not ?_ | refine pu_eql ?_ | refine pu_neq ?_ | refine pu_lss ?_ | refine pu_leq ?_ | refine pu_gtr ?_ | refine pu_geq ?_ | refine pu_add ?_ | refine pu_sub ?_ | refine pu_mul ?_ | refine pu_neg ?_ | refine fa_at ?_ | refine nl_ptr ?_ | refine ex20 ?_ | refine ex21 ?_ | refine ex30 ?_ | refine ex31 ?_ | refine ex32 ?_ | refine ln_rule ?_ | refine lnT_rule ?_ | refine pu_and ?_ | refine pu_or ?_ | refine pu_xor ?_ | refine pu_seq ?_ | refine pu_sne ?_)
        refine cnd_f (by decide) ?_
        repeat (first | refine pu_not ?_ | refine pu_eql ?_ | refine pu_neq ?_ | refine pu_lss ?_ | refine pu_leq ?_ | refine pu_gtr ?_ | refine pu_geq ?_ | refine pu_add ?_ | refine pu_sub ?_ | refine pu_mul ?_ | refine pu_neg ?_ | refine fa_at ?_ | refine nl_ptr ?_ | refine ex20 ?_ | refine ex21 ?_ | refine ex30 ?_ | refine ex31 ?_ | refine ex32 ?_ | refine ln_rule ?_ | refine lnT_rule ?_ | refine pu_and ?_ | refine pu_or ?_ | refine pu_xor ?_ | refine pu_seq ?_ | refine pu_sne ?_)
        refine cnd_t (by decide) ?_
        exact works12_spec h9 (fun w' h' => kk _ (toG h'))
      · have h5 : Ow B w5 ((s.hp p ++ F) ++ ((g, cel l T.t_uint32) :: (Z ++ G))) := by simpa using h5
        repeat (first | refine pu_not ?_ | refine pu_eql ?_ | refine pu_neq ?_ | refine pu_lss ?_ | refine pu_leq ?_ | refine pu_gtr ?_ | refine pu_geq ?_ | refine pu_add ?_ | refine pu_sub ?_ | refine pu_mul ?_ | refine pu_neg ?_ | refine fa_at ?_ | refine nl_ptr ?_ | refine ex20 ?_ | refine ex21 ?_ | refine ex30 ?_ | refine ex31 ?_ | refine ex32 ?_ | refine ln_rule ?_ | refine lnT_rule ?_ | refine pu_and ?_ | refine pu_or ?_ | refine pu_xor ?_ | refine pu_seq ?_ | refine pu_sne ?_)
        refine ldn_here h5 (mG m2) (vs := p.cells v) rfl rfl ?_
        repeat (first | refine pu_not ?_ | refine pu_eql ?_ | refine pu_neq ?_ | refine pu_lss ?_ | refine pu_leq ?_ | refine pu_gtr ?_ | refine pu_geq ?_ | refine pu_add ?_ | refine pu_sub ?_ | refine pu_mul ?_ | refine pu_neg ?_ | refine fa_at ?_ | refine nl_ptr ?_ | refine ex20 ?_ | refine ex21 ?_ | refine ex30 ?_ | refine ex31 ?_ | refine ex32 ?_ | refine ln_rule ?_ | refine lnT_rule ?_ | refine pu_and ?_ | refine pu_or ?_ | refine pu_xor ?_ | refine pu_seq ?_ | refine pu_sne ?_)
        refine ld_here h5 (mG m2) (v := vI x) rfl ?_
        repeat (first | refine pu_not ?_ | refine pu_eql ?_ | refine pu_neq ?_ | refine pu_lss ?_ | refine pu_leq ?_ | refine pu_gtr ?_ | refine pu_geq ?_ | refine pu_add ?_ | refine pu_sub ?_ | refine pu_mul ?_ | refine pu_neg ?_ | refine fa_at ?_ | refine nl_ptr ?_ | refine ex20 ?_ | refine ex21 ?_ | refine ex30 ?_ | refine ex31 ?_ | refine ex32 ?_ | refine ln_rule ?_ | refine lnT_rule ?_ | refine pu_and ?_ | refine pu_or ?_ | refine pu_xor ?_ | refine pu_seq ?_ | refine pu_sne ?_)
        refine ld_here h5 (mG m2) (v := a) rfl ?_
        refine new12_spec hv ha (fun y hy => mG (hX y hy)) (by omega) h5 (fun ho w6 h6 => by rw [hok] at ho; cases ho) (fun _ hb' w6 h6 => absurd hl (hb' f hx0 hf)) (fun _ f' _ hf' _ S c bx w6 hc h6 => ?_)
        rw [hf] at hf'
        cases hf'
        have good := fs_good hv hok
        have hI : Inv p s.frs := by rw [hfrs]; exact Inv.beg good hf hl hau
        obtain ⟨C, hC⟩ : ∃ C : Hp, C = (bx, cel (frow (begF x.toNat f ws) c) T.t_api_Frame) :: (S ++ F) := ⟨_, rfl⟩
        repeat (first | refine pu_not ?_ | refine pu_eql ?_ | refine pu_neq ?_ | refine pu_lss ?_ | refine pu_leq ?_ | refine pu_gtr ?_ | refine pu_geq ?_ | refine pu_add ?_ | refine pu_sub ?_ | refine pu_mul ?_ | refine pu_neg ?_ | refine fa_at ?_ | refine nl_ptr ?_ | refine ex20 ?_ | refine ex21 ?_ | refine ex30 ?_ | refine ex31 ?_ | refine ex32 ?_ | refine ln_rule ?_ | refine lnT_rule ?_ | refine pu_and ?_ | refine pu_or ?_ | refine pu_xor ?_ | refine pu_seq ?_ | refine pu_sne ?_)
        refine al_rule h6 (l := zref) zref_eq (fun b65 w7 h7 => ?_)
        refine st_here (A := []) h7 (rsC p v (.slice (some ⟨bx, 0, none⟩) 1 1) 0) rfl rfl (by simp only [List.all_cons, fsIn.plain hv]; rfl) (by simp) (fun w8 h8 => ?_)
        simp only [List.take_zero, List.nil_append, Nat.zero_add, List.drop_succ_cons, List.drop_zero, List.drop_nil, List.append_nil] at h8
        have h8 : Ow B w8 ((s.hp p ++ ((b65, cel (rsC p v (.slice (some ⟨bx, 0, none⟩) 1 1) 0) T.t_linesmanref12_Stack) :: C)) ++ ((g, cel l T.t_uint32) :: (Z ++ G))) := by
          have h9 : Ow B w8 (((b65, cel (rsC p v (.slice (some ⟨bx, 0, none⟩) 1 1) 0) T.t_linesmanref12_Stack) :: (bx, cel (frow (begF x.toNat f ws) c) T.t_api_Frame) :: S) ++ (s.hp p ++ (F ++ ((g, cel l T.t_uint32) :: (Z ++ G))))) := by simpa using h8
          have h10 := h9.perm (List.perm_append_comm_assoc _ _ _)
          rw [hC]
          simpa using h10
        refine num12_spec h8 (fun w9 h9 => ?_)
        repeat (first | refine pu_not ?_ | refine pu_eql ?_ | refine pu_neq ?_ | refine pu_lss ?_ | refine pu_leq ?_ | refine pu_gtr ?_ | refine pu_geq ?_ | refine pu_add ?_ | refine pu_sub ?_ | refine pu_mul ?_ | refine pu_neg ?_ | refine fa_at ?_ | refine nl_ptr ?_ | refine ex20 ?_ | refine ex21 ?_ | refine ex30 ?_ | refine ex31 ?_ | refine ex32 ?_ | refine ln_rule ?_ | refine lnT_rule ?_ | refine pu_and ?_ | refine pu_or ?_ | refine pu_xor ?_ | refine pu_seq ?_ | refine pu_sne ?_)
        refine cnd_f (by decide) ?_
        refine pu_pnnilS rfl ?_
        repeat (first | refine pu_not ?_ | refine pu_eql ?_ | refine pu_neq ?_ | refine pu_lss ?_ | refine pu_leq ?_ | refine pu_gtr ?_ | refine pu_geq ?_ | refine pu_add ?_ | refine pu_sub ?_ | refine pu_mul ?_ | refine pu_neg ?_ | refine fa_at ?_ | refine nl_ptr ?_ | refine ex20 ?_ | refine ex21 ?_ | refine ex30 ?_ | refine ex31 ?_ | refine ex32 ?_ | refine ln_rule ?_ | refine lnT_rule ?_ | refine pu_and ?_ | refine pu_or ?_ | refine pu_xor ?_ | refine pu_seq ?_ | refine pu_sne ?_)
        refine pu_bneq (by kernel_rfl) ?_
        refine cnd_f rfl ?_
        refine ln_rule ?_
        repeat (first | refine pu_not ?_ | refine pu_eql ?_ | refine pu_neq ?_ | refine pu_lss ?_ | refine pu_leq ?_ | refine pu_gtr ?_ | refine pu_geq ?_ | refine pu_add ?_ | refine pu_sub ?_ | refine pu_mul ?_ | refine pu_neg ?_ | refine fa_at ?_ | refine nl_ptr ?_ | refine ex20 ?_ | refine ex21 ?_ | refine ex30 ?_ | refine ex31 ?_ | refine ex32 ?_ | refine ln_rule ?_ | refine lnT_rule ?_ | refine pu_and ?_ | refine pu_or ?_ | refine pu_xor ?_ | refine pu_seq ?_ | refine pu_sne ?_)
        have e77 : IntKind.i64.wrap ((ws.length : Int) + 1) = ((ws.length + 1 : Nat) : Int) := by rw [wrap64_in (by omega) (by omega)]; omega
        rw [e77]
        refine pu_cutH und_slu usz (by omega) (by omega) ?_
        rw [Int.toNat_natCast]
        have ecut2 : Vc.cut (.slice (some ⟨g, 0, none⟩) ws.length cap) 0 (ws.length + 1) cap = .slice (some ⟨g, 0, none⟩) (ws.length + 1) cap := by
          simp only [Vc.cut]
          rw [if_neg (by omega)]
          simp [Addr.add]
        rw [ecut2]
        refine ln_rule ?_
        refine ixS_at (by omega) (by omega) ?_
        refine ld_here h9 (List.mem_append_right _ (.head _)) (v := vU 77) (by rw [Int.toNat_natCast, Nat.mul_one, Nat.zero_add]; exact h77') ?_
        repeat (first | refine pu_not ?_ | refine pu_eql ?_ | refine pu_neq ?_ | refine pu_lss ?_ | refine pu_leq ?_ | refine pu_gtr ?_ | refine pu_geq ?_ | refine pu_add ?_ | refine pu_sub ?_ | refine pu_mul ?_ | refine pu_neg ?_ | refine fa_at ?_ | refine nl_ptr ?_ | refine ex20 ?_ | refine ex21 ?_ | refine ex30 ?_ | refine ex31 ?_ | refine ex32 ?_ | refine ln_rule ?_ | refine lnT_rule ?_ | refine pu_and ?_ | refine pu_or ?_ | refine pu_xor ?_ | refine pu_seq ?_ | refine pu_sne ?_)
        refine cnd_f (by decide) ?_
        repeat (first | refine pu_not ?_ | refine pu_eql ?_ | refine pu_neq ?_ | refine pu_lss ?_ | refine pu_leq ?_ | refine pu_gtr ?_ | refine pu_geq ?_ | refine pu_add ?_ | refine pu_sub ?_ | refine pu_mul ?_ | refine pu_neg ?_ | refine fa_at ?_ | refine nl_ptr ?_ | refine ex20 ?_ | refine ex21 ?_ | refine ex30 ?_ | refine ex31 ?_ | refine ex32 ?_ | refine ln_rule ?_ | refine lnT_rule ?_ | refine pu_and ?_ | refine pu_or ?_ | refine pu_xor ?_ | refine pu_seq ?_ | refine pu_sne ?_)
        refine cnd_f (by decide) ?_
        refine ⟨fun t w => ∃ (n : Nat) (l' : List Value), t = [vI n] ∧ n ≤ ws.length ∧ l'.length = cap ∧ Ow B w ((s.hp p ++ ((b65, cel (rsC p v (.slice (some ⟨bx, 0, none⟩) 1 1) 0) T.t_linesmanref12_Stack) :: C)) ++ ((g, cel l' T.t_uint32) :: (Z ++ G))), fun t _ => match t with | [.int _ n] => ws.length - n.toNat | _ => 0, ⟨0, l, rfl, Nat.zero_le _, hll, h9⟩, ?_⟩
        rintro t w10 ⟨n, l', rfl, hn, hl', h10⟩ j
        repeat (first | refine pu_not ?_ | refine pu_eql ?_ | refine pu_neq ?_ | refine pu_lss ?_ | refine pu_leq ?_ | refine pu_gtr ?_ | refine pu_geq ?_ | refine pu_add ?_ | refine pu_sub ?_ | refine pu_mul ?_ | refine pu_neg ?_ | refine fa_at ?_ | refine nl_ptr ?_ | refine ex20 ?_ | refine ex21 ?_ | refine ex30 ?_ | refine ex31 ?_ | refine ex32 ?_ | refine ln_rule ?_ | refine lnT_rule ?_ | refine pu_and ?_ | refine pu_or ?_ | refine pu_xor ?_ | refine pu_seq ?_ | refine pu_sne ?_)
        refine cnd (fun hlt => ?_) (fun hlt => ?_)
        · have hlt : n < ws.length := by simpa using hlt
          refine ixS_at (by omega) (by omega) ?_
          refine st1_here h10 rfl rfl (by simp; omega) (fun w11 h11 => ?_)
          repeat (first | refine pu_not ?_ | refine pu_eql ?_ | refine pu_neq ?_ | refine pu_lss ?_ | refine pu_leq ?_ | refine pu_gtr ?_ | refine pu_geq ?_ | refine pu_add ?_ | refine pu_sub ?_ | refine pu_mul ?_ | refine pu_neg ?_ | refine fa_at ?_ | refine nl_ptr ?_ | refine ex20 ?_ | refine ex21 ?_ | refine ex30 ?_ | refine ex31 ?_ | refine ex32 ?_ | refine ln_rule ?_ | refine lnT_rule ?_ | refine pu_and ?_ | refine pu_or ?_ | refine pu_xor ?_ | refine pu_seq ?_ | refine pu_sne ?_)
          rw [wrap64_in (by omega) (by omega)]
          exact ⟨⟨n + 1, _, rfl, hlt, by rw [List.length_set]; exact hl', h11⟩, by simp; omega⟩
        · have h10 : Ow B w10 (s.hp p ++ (((b65, cel (rsC p v (.slice (some ⟨bx, 0, none⟩) 1 1) 0) T.t_linesmanref12_Stack) :: C) ++ ((g, cel l' T.t_uint32) :: (Z ++ G)))) := by simpa using h10
          refine ldn_here h10 (List.mem_append_right _ (.head _)) (vs := rsC p v (.slice (some ⟨bx, 0, none⟩) 1 1) 0) rfl rfl ?_
          have inC : ∀ {y}, y ∈ C → y ∈ ((b65, cel (rsC p v (.slice (some ⟨bx, 0, none⟩) 1 1) 0) T.t_linesmanref12_Stack) :: C) ++ ((g, cel l' T.t_uint32) :: (Z ++ G)) := fun h => List.mem_append_left _ (.tail _ h)
          have hres' : (0 : Int) = s.res := hres.symm
          have garg : ∀ {X : Prop}, (callW PG N.linesmanlaw12_is [ptr s.b, .agg (rsC p v (oneL bx) s.res).toArray, vI 2] (fun t108 w109 => condV t108 (callW PG N.linesmanlaw12_works [] K PK w109) (K (vB false) w109)) PK w10) → (callW PG N.linesmanlaw12_is [ptr s.b, .agg (rsC p v (oneL bx) 0).toArray, vI 2] (fun t108 w109 => condV t108 (callW PG N.linesmanlaw12_works [] K PK w109) (K (vB false) w109)) PK w10) := fun h => by rw [hres]at h; exact h
          refine garg (X := True) ?_
          refine is12_spec (m := begF x.toNat f ws) (c := c) good hI hfrs hs (fun y hy => inC (by rw [hC]; exact .tail _ (List.mem_append_right _ hy))) (inC (by rw [hC]; exact .head _)) ((Vc.Own.sl hc).mono fun y hy => inC (by rw [hC]; exact .tail _ (List.mem_append_left _ hy))) (hv.mono fun y hy => List.mem_append_right _ (.tail _ (List.mem_append_right _ (hX y hy)))) h10 (fun w11 h11 => ?_)
          refine cnd_t rfl ?_
          exact works12_spec h11 (fun w' h' => kk _ (toG (A := s.hp p ++ ((b65, cel (rsC p v (.slice (some ⟨bx, 0, none⟩) 1 1) 0) T.t_linesmanref12_Stack) :: C)) (by simpa using h')))
  · refine bs_rule h2.drew (rgs [77]) (by kernel_rfl) (fun b24 w3 h3 => ⟨h3.drop, ?_⟩)
    refine bs_rule h3 [] (by kernel_rfl) (fun b20 w4 h4 => ⟨Ow.drop (Ow.drop h4), ?_⟩)
    have h4' : Ow B w4 ([(b24, cel (rgs [77]) T.t_uint32)] ++ [(b20, cel [] T.t_uint32)] ++ G) := h4.perm (.swap _ _ _)
    refine app1 (xs := rgs []) (n := 0) h4' (own0 b20) haG (fun y hy => List.mem_append_right _ hy) (rgs_plain ws) und_slu info_u rfl (by rw [hrl]; exact hl1 _ (by omega)) (by rw [hrl]; omega) (fun S v1 w5 h5' ho4 => ⟨sub (A := _ :: S) h5', ?_⟩)
    refine app1 h5' ho4 (sl_here (l := rgs [77]) (.head _)) (H' := [(b24, cel (rgs [77]) T.t_uint32)]) (fun y hy => by rw [List.mem_singleton.1 hy]; exact .head _) (rgs_plain _) und_slu info_u rfl (by simp only [hrl]; exact hl1 _ (by simp [rgs]; omega)) (by simp [rgs]; omega) (fun S2 v2 wN h6 ho => ⟨sub (A := _ :: S2) h6, ?_⟩)
    have ho : Vc.Own S2 T.t_uint32 1 v2 (ws.length + 1) (rgs (ws ++ [77])) := by
      have e1 : rgs [] ++ rgs ws ++ rgs [77] = rgs (ws ++ [77]) := by simp [rgs]
      have e2 : 0 + (rgs ws).length + (rgs [77]).length = ws.length + 1 := by simp [rgs]
      rw [e1, e2] at ho; exact ho
    obtain ⟨Z, hZ⟩ : ∃ Z : Hp, Z = [(b24, cel (rgs [77]) T.t_uint32)] := ⟨_, rfl⟩
    have hN : Ow B wN (S2 ++ (Z ++ G)) := by
      have := h6.perm (H' := S2 ++ ([(b24, cel (rgs [77]) T.t_uint32)] ++ G)) (by rw [List.append_assoc]; exact List.perm_append_comm_assoc _ _ _)
      rw [hZ]; exact this
    clear h3 h4 h4' h5' h6 ho4 hZ
    obtain ⟨hol, ⟨_, _, hz⟩ | ⟨g, cap, l, rfl, rfl, hcap, hcm, hll, hlx⟩⟩ := ho
    · omega
    rw [Nat.mul_one] at hll hlx
    refine pu_cutH und_slu usz (by omega) (by omega) ?_
    rw [Int.toNat_natCast]
    have ecut : Vc.cut (.slice (some ⟨g, 0, none⟩) (ws.length + 1) cap) 0 ws.length cap = .slice (some ⟨g, 0, none⟩) ws.length cap := by
      simp only [Vc.cut]
      rw [if_neg (by omega)]
      simp [Addr.add]
    rw [ecut]
    have hA : Ow B wN ((g, cel l T.t_uint32) :: (Z ++ G)) := by
      have := hN.perm (List.perm_append_comm_assoc _ _ _)
      simpa using hN
    have hb : Sl ((g, cel l T.t_uint32) :: (Z ++ G)) (.slice (some ⟨g, 0, none⟩) ws.length cap) (rgs ws) := by
      refine ⟨some ⟨g, 0, none⟩, cap, by rw [hrl], by rw [hrl]; omega, fun j y hj => ⟨_, rfl, ?_⟩⟩
      rw [add_mk, Nat.zero_add]
      refine cell_here (.head _) ?_
      have hjl := (List.getElem?_eq_some_iff.1 hj).1
      rw [hrl] at hjl
      have h9 : (rgs (ws ++ [77]))[j]? = some y := by
        rw [← h77, List.getElem?_append_left (by omega)]; exact hj
      rw [← hlx, List.getElem?_take] at h9
      split at h9
      · exact h9
      · cases h9
    have h77' : l[ws.length]? = some (vU 77) := by
      have h9 : (rgs (ws ++ [77]))[ws.length]? = some (vU 77) := by
        rw [← h77, List.getElem?_append_right (by omega), hrl, Nat.sub_self]; rfl
      rw [← hlx, List.getElem?_take] at h9
      split at h9
      · exact h9
      · cases h9
    have mG : ∀ {A : Hp} {y}, y ∈ G → y ∈ A ++ ((g, cel l T.t_uint32) :: (Z ++ G)) := fun h => List.mem_append_right _ (.tail _ (List.mem_append_right _ h))
    have toG : ∀ {A : Hp} {w : World} {l : List Value}, Ow B w (A ++ ((g, cel l T.t_uint32) :: (Z ++ G))) → Ow B w G := fun h => h.sub (((List.sublist_append_right _ _).trans (List.sublist_cons_self _ _)).trans (List.sublist_append_right _ _))
    repeat (first | refine pu_not ?_ | refine pu_eql ?_ | refine pu_neq ?_ | refine pu_lss ?_ | refine pu_leq ?_ | refine pu_gtr ?_ | refine pu_geq ?_ | refine pu_add ?_ | refine pu_sub ?_ | refine pu_mul ?_ | refine pu_neg ?_ | refine fa_at ?_ | refine nl_ptr ?_ | refine ex20 ?_ | refine ex21 ?_ | refine ex30 ?_ | refine ex31 ?_ | refine ex32 ?_ | refine ln_rule ?_ | refine lnT_rule ?_ | refine pu_and ?_ | refine pu_or ?_ | refine pu_xor ?_ | refine pu_seq ?_ | refine pu_sne ?_)
    refine ldn_here hA (mG (A := []) m2) (vs := p.cells v) rfl rfl ?_
    repeat (first | refine pu_not ?_ | refine pu_eql ?_ | refine pu_neq ?_ | refine pu_lss ?_ | refine pu_leq ?_ | refine pu_gtr ?_ | refine pu_geq ?_ | refine pu_add ?_ | refine pu_sub ?_ | refine pu_mul ?_ | refine pu_neg ?_ | refine fa_at ?_ | refine nl_ptr ?_ | refine ex20 ?_ | refine ex21 ?_ | refine ex30 ?_ | refine ex31 ?_ | refine ex32 ?_ | refine ln_rule ?_ | refine lnT_rule ?_ | refine pu_and ?_ | refine pu_or ?_ | refine pu_xor ?_ | refine pu_seq ?_ | refine pu_sne ?_)
    refine ld_here hA (mG (A := []) m2) (v := vI x) rfl ?_
    -- the b's end is as it was, and what follows
    refine new_spec (X := (g, cel l T.t_uint32) :: (Z ++ G)) (hv.mono fun y hy => mG (A := []) (hX y hy)) hb (fun y hy => hy) (by omega) (by omega) hA (fun hb' w5 h5 => ?_) (fun hok hb' w5 h5 => ?_) (fun hok f hx0 hf hl s F w5 hres hfrs hs h5 => ?_)
    · have h5 : Ow B w5 ([] ++ ((g, cel l T.t_uint32) :: (Z ++ G))) := h5
      repeat (first | refine pu_not ?_ | refine pu_eql ?_ | refine pu_neq ?_ | refine pu_lss ?_ | refine pu_leq ?_ | refine pu_gtr ?_ | refine pu_geq ?_ | refine pu_add ?_ | refine pu_sub ?_ | refine pu_mul ?_ | refine pu_neg ?_ | refine fa_at ?_ | refine nl_ptr ?_ | refine ex20 ?_ | refine ex21 ?_ | refine ex30 ?_ | refine ex31 ?_ | refine ex32 ?_ | refine ln_rule ?_ | refine lnT_rule ?_ | refine pu_and ?_ | refine pu_or ?_ | refine pu_xor ?_ | refine pu_seq ?_ | refine pu_sne ?_)
      refine ldn_here h5 (mG m2) (vs := p.cells v) rfl rfl ?_
      repeat (first | refine pu_not ?_ | refine pu_eql ?_ | refine pu_neq ?_ | refine pu_lss ?_ | refine pu_leq ?_ | refine pu_gtr ?_ | refine pu_geq ?_ | refine pu_add ?_ | refine pu_sub ?_ | refine pu_mul ?_ | refine pu_neg ?_ | refine fa_at ?_ | refine nl_ptr ?_ | refine ex20 ?_ | refine ex21 ?_ | refine ex30 ?_ | refine ex31 ?_ | refine ex32 ?_ | refine ln_rule ?_ | refine lnT_rule ?_ | refine pu_and ?_ | refine pu_or ?_ | refine pu_xor ?_ | refine pu_seq ?_ | refine pu_sne ?_)
      refine ld_here h5 (mG m2) (v := vI x) rfl ?_
      repeat (first | refine pu_not ?_ | refine pu_eql ?_ | refine pu_neq ?_ | refine pu_lss ?_ | refine pu_leq ?_ | refine pu_gtr ?_ | refine pu_geq ?_ | refine pu_add ?_ | refine pu_sub ?_ | refine pu_mul ?_ | refine pu_neg ?_ | refine fa_at ?_ | refine nl_ptr ?_ | refine ex20 ?_ | refine ex21 ?_ | refine ex30 ?_ | refine ex31 ?_ | refine ex32 ?_ | refine ln_rule ?_ | refine lnT_rule ?_ | refine pu_and ?_ | refine pu_or ?_ | refine pu_xor ?_ | refine pu_seq ?_ | refine pu_sne ?_)
      refine ld_here h5 (mG m2) (v := a) rfl ?_
      refine new12_spec hv ha (fun y hy => mG (hX y hy)) (by omega) h5 (fun _ w6 h6 => ?_) (fun ho _ w6 h6 => by rw [hb'] at ho; cases ho) (fun ho f _ _ _ S c bx w6 hc h6 => by rw [hb'] at ho; cases ho)
      repeat (first | refine pu_not ?_ | refine pu_eql ?_ | refine pu_neq ?_ | refine pu_lss ?_ | refine pu_leq ?_ | refine pu_gtr ?_ | refine pu_geq ?_ | refine pu_add ?_ | refine pu_sub ?_ | refine pu_mul ?_ | refine pu_neg ?_ | refine fa_at ?_ | refine nl_ptr ?_ | refine ex20 ?_ | refine ex21 ?_ | refine ex30 ?_ | refine ex31 ?_ | refine ex32 ?_ | refine ln_rule ?_ | refine lnT_rule ?_ | refine pu_and ?_ | refine pu_or ?_ | refine pu_xor ?_ | refine pu_seq ?_ | refine pu_sne ?_)
      refine al_rule h6 (l := zref) zref_eq (fun b65 w7 h7 => ?_)
      refine st_here (A := []) h7 zref rfl rfl rfl (by simp) (fun w8 h8 => ?_)
      have h8 : Ow B w8 ([] ++ ((g, cel l T.t_uint32) :: (Z ++ G))) := Ow.drop h8
      refine num12_spec h8 (fun w9 h9 => ?_)
      repeat (first | refine pu_not ?_ | refine pu_eql ?_ | refine pu_neq ?_ | refine pu_lss ?_ | refine pu_leq ?_ | refine pu_gtr ?_ | refine pu_geq ?_ | refine pu_add ?_ | refine pu_sub ?_ | refine pu_mul ?_ | refine pu_neg ?_ | refine fa_at ?_ | refine nl_ptr ?_ | refine ex20 ?_ | refine ex21 ?_ | refine ex30 ?_ | refine ex31 ?_ | refine ex32 ?_ | refine ln_rule ?_ | refine lnT_rule ?_ | refine pu_and ?_ | refine pu_or ?_ | refine pu_xor ?_ | refine pu_seq ?_ | refine pu_sne ?_)
      refine cnd_f (by decide) ?_
      refine pu_pnnilS rfl ?_
      repeat (first | refine pu_not ?_ | refine pu_eql ?_ | refine pu_neq ?_ | refine pu_lss ?_ | refine pu_leq ?_ | refine pu_gtr ?_ | refine pu_geq ?_ | refine pu_add ?_ | refine pu_sub ?_ | refine pu_mul ?_ | refine pu_neg ?_ | refine fa_at ?_ | refine nl_ptr ?_ | refine ex20 ?_ | refine ex21 ?_ | refine ex30 ?_ | refine ex31 ?_ | refine ex32 ?_ | refine ln_rule ?_ | refine lnT_rule ?_ | refine pu_and ?_ | refine pu_or ?_ | refine pu_xor ?_ | refine pu_seq ?_ | refine pu_sne ?_)
      refine pu_bneq (by kernel_rfl) ?_
      refine cnd_f rfl ?_
      refine ln_rule ?_
      repeat (first | refine pu_not ?_ | refine pu_eql ?_ | refine pu_neq ?_ | refine pu_lss ?_ | refine pu_leq ?_ | refine pu_gtr ?_ | refine pu_geq ?_ | refine pu_add ?_ | refine pu_sub ?_ | refine pu_mul ?_ | refine pu_neg ?_ | refine fa_at ?_ | refine nl_ptr ?_ | refine ex20 ?_ | refine ex21 ?_ | refine ex30 ?_ | refine ex31 ?_ | refine ex32 ?_ | refine ln_rule ?_ | refine lnT_rule ?_ | refine pu_and ?_ | refine pu_or ?_ | refine pu_xor ?_ | refine pu_seq ?_ | refine pu_sne ?_)
      have e77 : IntKind.i64.wrap ((ws.length : Int) + 1) = ((ws.length + 1 : Nat) : Int) := by rw [wrap64_in (by omega) (by omega)]; omega
      rw [e77]
      refine pu_cutH und_slu usz (by omega) (by omega) ?_
      rw [Int.toNat_natCast]
      have ecut2 : Vc.cut (.slice (some ⟨g, 0, none⟩) ws.length cap) 0 (ws.length + 1) cap = .slice (some ⟨g, 0, none⟩) (ws.length + 1) cap := by
        simp only [Vc.cut]
        rw [if_neg (by omega)]
        simp [Addr.add]
      rw [ecut2]
      refine ln_rule ?_
      refine ixS_at (by omega) (by omega) ?_
      refine ld_here h9 (List.mem_append_right _ (.head _)) (v := vU 77) (by rw [Int.toNat_natCast, Nat.mul_one, Nat.zero_add]; exact h77') ?_
      repeat (first | refine pu_not ?_ | refine pu_eql ?_ | refine pu_neq ?_ | refine pu_lss ?_ | refine pu_leq ?_ | refine pu_gtr ?_ | refine pu_geq ?_ | refine pu_add ?_ | refine pu_sub ?_ | refine pu_mul ?_ | refine pu_neg ?_ | refine fa_at ?_ | refine nl_ptr ?_ | refine ex20 ?_ | refine ex21 ?_ | refine ex30 ?_ | refine ex31 ?_ | refine ex32 ?_ | refine ln_rule ?_ | refine lnT_rule ?_ | refine pu_and ?_ | refine pu_or ?_ | refine pu_xor ?_ | refine pu_seq ?_ | refine pu_sne ?_)
      refine cnd_f (by decide) ?_
      repeat (first | refine pu_not ?_ | refine pu_eql ?_ | refine pu_neq ?_ | refine pu_lss ?_ | refine pu_leq ?_ | refine pu_gtr ?_ | refine pu_geq ?_ | refine pu_add ?_ | refine pu_sub ?_ | refine pu_mul ?_ | refine pu_neg ?_ | refine fa_at ?_ | refine nl_ptr ?_ | refine ex20 ?_ | refine ex21 ?_ | refine ex30 ?_ | refine ex31 ?_ | refine ex32 ?_ | refine ln_rule ?_ | refine lnT_rule ?_ | refine pu_and ?_ | refine pu_or ?_ | refine pu_xor ?_ | refine pu_seq ?_ | refine pu_sne ?_)
      refine cnd_t (by decide) ?_
      exact works12_spec h9 (fun w' h' => kk _ (toG h'))
    · have h5 : Ow B w5 ([] ++ ((g, cel l T.t_uint32) :: (Z ++ G))) := h5
      repeat (first | refine pu_not ?_ | refine pu_eql ?_ | refine pu_neq ?_ | refine pu_lss ?_ | refine pu_leq ?_ | refine pu_gtr ?_ | refine pu_geq ?_ | refine pu_add ?_ | refine pu_sub ?_ | refine pu_mul ?_ | refine pu_neg ?_ | refine fa_at ?_ | refine nl_ptr ?_ | refine ex20 ?_ | refine ex21 ?_ | refine ex30 ?_ | refine ex31 ?_ | refine ex32 ?_ | refine ln_rule ?_ | refine lnT_rule ?_ | refine pu_and ?_ | refine pu_or ?_ | refine pu_xor ?_ | refine pu_seq ?_ | refine pu_sne ?_)
      refine ldn_here h5 (mG m2) (vs := p.cells v) rfl rfl ?_
      repeat (first | refine pu_not ?_ | refine pu_eql ?_ | refine pu_neq ?_ | refine pu_lss ?_ | refine pu_leq ?_ | refine pu_gtr ?_ | refine pu_geq ?_ | refine pu_add ?_ | refine pu_sub ?_ | refine pu_mul ?_ | refine pu_neg ?_ | refine fa_at ?_ | refine nl_ptr ?_ | refine ex20 ?_ | refine ex21 ?_ | refine ex30 ?_ | refine ex31 ?_ | refine ex32 ?_ | refine ln_rule ?_ | refine lnT_rule ?_ | refine pu_and ?_ | refine pu_or ?_ | refine pu_xor ?_ | refine pu_seq ?_ | refine pu_sne ?_)
      refine ld_here h5 (mG m2) (v := vI x) rfl ?_
      repeat (first | refine pu_not ?_ | refine pu_eql ?_ | refine pu_neq ?_ | refine pu_lss ?_ | refine pu_leq ?_ | refine pu_gtr ?_ | refine pu_geq ?_ | refine pu_add ?_ | refine pu_sub ?_ | refine pu_mul ?_ | refine pu_neg ?_ | refine fa_at ?_ | refine nl_ptr ?_ | refine ex20 ?_ | refine ex21 ?_ | refine ex30 ?_ | refine ex31 ?_ | refine ex32 ?_ | refine ln_rule ?_ | refine lnT_rule ?_ | refine pu_and ?_ | refine pu_or ?_ | refine pu_xor ?_ | refine pu_seq ?_ | refine pu_sne ?_)
      refine ld_here h5 (mG m2) (v := a) rfl ?_
      refine new12_spec hv ha (fun y hy => mG (hX y hy)) (by omega) h5 (fun ho w6 h6 => by rw [hok] at ho; cases ho) (fun _ _ w6 h6 => ?_) (fun ho f hx0 hf hl S c bx w6 hc h6 => absurd hl (hb' f hx0 hf))
      repeat (first | refine pu_not ?_ | refine pu_eql ?_ | refine pu_neq ?_ | refine pu_lss ?_ | refine pu_leq ?_ | refine pu_gtr ?_ | refine pu_geq ?_ | refine pu_add ?_ | refine pu_sub ?_ | refine pu_mul ?_ | refine pu_neg ?_ | refine fa_at ?_ | refine nl_ptr ?_ | refine ex20 ?_ | refine ex21 ?_ | refine ex30 ?_ | refine ex31 ?_ | refine ex32 ?_ | refine ln_rule ?_ | refine lnT_rule ?_ | refine pu_and ?_ | refine pu_or ?_ | refine pu_xor ?_ | refine pu_seq ?_ | refine pu_sne ?_)
      refine al_rule h6 (l := zref) zref_eq (fun b65 w7 h7 => ?_)
      refine st_here (A := []) h7 zref rfl rfl rfl (by simp) (fun w8 h8 => ?_)
      have h8 : Ow B w8 ([] ++ ((g, cel l T.t_uint32) :: (Z ++ G))) := Ow.drop h8
      refine num12_spec h8 (fun w9 h9 => ?_)
      repeat (first | refine pu_not ?_ | refine pu_eql ?_ | refine pu_neq ?_ | refine pu_lss ?_ | refine pu_leq ?_ | refine pu_gtr ?_ | refine pu_geq ?_ | refine pu_add ?_ | refine pu_sub ?_ | refine pu_mul ?_ | refine pu_neg ?_ | refine fa_at ?_ | refine nl_ptr ?_ | refine ex20 ?_ | refine ex21 ?_ | refine ex30 ?_ | refine ex31 ?_ | refine ex32 ?_ | refine ln_rule ?_ | refine lnT_rule ?_ | refine pu_and ?_ | refine pu_or ?_ | refine pu_xor ?_ | refine pu_seq ?_ | refine pu_sne ?_)
      refine cnd_f (by decide) ?_
      refine pu_pnnilS rfl ?_
      repeat (first | refine pu_not ?_ | refine pu_eql ?_ | refine pu_neq ?_ | refine pu_lss ?_ | refine pu_leq ?_ | refine pu_gtr ?_ | refine pu_geq ?_ | refine pu_add ?_ | refine pu_sub ?_ | refine pu_mul ?_ | refine pu_neg ?_ | refine fa_at ?_ | refine nl_ptr ?_ | refine ex20 ?_ | refine ex21 ?_ | refine ex30 ?_ | refine ex31 ?_ | refine ex32 ?_ | refine ln_rule ?_ | refine lnT_rule ?_ | refine pu_and ?_ | refine pu_or ?_ | refine pu_xor ?_ | refine pu_seq ?_ | refine pu_sne ?_)
      refine pu_bneq (by kernel_rfl) ?_
      refine cnd_f rfl ?_
      refine ln_rule ?_
      repeat (first | refine pu_not ?_ | refine pu_eql ?_ | refine pu_neq ?_ | refine pu_lss ?_ | refine pu_leq ?_ | refine pu_gtr ?_ | refine pu_geq ?_ | refine pu_add ?_ | refine pu_sub ?_ | refine pu_mul ?_ | refine pu_neg ?_ | refine fa_at ?_ | refine nl_ptr ?_ | refine ex20 ?_ | refine ex21 ?_ | refine ex30 ?_ | refine ex31 ?_ | refine ex32 ?_ | refine ln_rule ?_ | refine lnT_rule ?_ | refine pu_and ?_ | refine pu_or ?_ | refine pu_xor ?_ | refine pu_seq ?_ | refine pu_sne ?_)
      have e77 : IntKind.i64.wrap ((ws.length : Int) + 1) = ((ws.length + 1 : Nat) : Int) := by rw [wrap64_in (by omega) (by omega)]; omega
      rw [e77]
      refine pu_cutH und_slu usz (by omega) (by omega) ?_
      rw [Int.toNat_natCast]
      have ecut2 : Vc.cut (.slice (some ⟨g, 0, none⟩) ws.length cap) 0 (ws.length + 1) cap = .slice (some ⟨g, 0, none⟩) (ws.length + 1) cap := by
        simp only [Vc.cut]
        rw [if_neg (by omega)]
        simp [Addr.add]
      rw [ecut2]
      refine ln_rule ?_
      refine ixS_at (by omega) (by omega) ?_
      refine ld_here h9 (List.mem_append_right _ (.head _)) (v := vU 77) (by rw [Int.toNat_natCast, Nat.mul_one, Nat.zero_add]; exact h77') ?_
      repeat (first | refine pu_not ?_ | refine pu_eql ?_ | refine pu_neq ?_ | refine pu_lss ?_ | refine pu_leq ?_ | refine pu_gtr ?_ | refine pu_geq ?_ | refine pu_add ?_ | refine pu_sub ?_ | refine pu_mul ?_ | refine pu_neg ?_ | refine fa_at ?_ | refine nl_ptr ?_ | refine ex20 ?_ | refine ex21 ?_ | refine ex30 ?_ | refine ex31 ?_ | refine ex32 ?_ | refine ln_rule ?_ | refine lnT_rule ?_ | refine pu_and ?_ | refine pu_or ?_ | refine pu_xor ?_ | refine pu_seq ?_ | refine pu_sne ?_)
      refine cnd_f (by decide) ?_
      repeat (first | refine pu_not ?_ | refine pu_eql ?_ | refine pu_neq ?_ | refine pu_lss ?_ | refine pu_leq ?_ | refine pu_gtr ?_ | refine pu_geq ?_ | refine pu_add ?_ | refine pu_sub ?_ | refine pu_mul ?_ | refine pu_neg ?_ | refine fa_at ?_ | refine nl_ptr ?_ | refine ex20 ?_ | refine ex21 ?_ | refine ex30 ?_ | refine ex31 ?_ | refine ex32 ?_ | refine ln_rule ?_ | refine lnT_rule ?_ | refine pu_and ?_ | refine pu_or ?_ | refine pu_xor ?_ | refine pu_seq ?_ | refine pu_sne ?_)
      refine cnd_t (by decide) ?_
      exact works12_spec h9 (fun w' h' => kk _ (toG h'))
    · have h5 : Ow B w5 ((s.hp p ++ F) ++ ((g, cel l T.t_uint32) :: (Z ++ G))) := by simpa using h5
      repeat (first | refine pu_not ?_ | refine pu_eql ?_ | refine pu_neq ?_ | refine pu_lss ?_ | refine pu_leq ?_ | refine pu_gtr ?_ | refine pu_geq ?_ | refine pu_add ?_ | refine pu_sub ?_ | refine pu_mul ?_ | refine pu_neg ?_ | refine fa_at ?_ | refine nl_ptr ?_ | refine ex20 ?_ | refine ex21 ?_ | refine ex30 ?_ | refine ex31 ?_ | refine ex32 ?_ | refine ln_rule ?_ | refine lnT_rule ?_ | refine pu_and ?_ | refine pu_or ?_ | refine pu_xor ?_ | refine pu_seq ?_ | refine pu_sne ?_)
      refine ldn_here h5 (mG m2) (vs := p.cells v) rfl rfl ?_
      repeat (first | refine pu_not ?_ | refine pu_eql ?_ | refine pu_neq ?_ | refine pu_lss ?_ | refine pu_leq ?_ | refine pu_gtr ?_ | refine pu_geq ?_ | refine pu_add ?_ | refine pu_sub ?_ | refine pu_mul ?_ | refine pu_neg ?_ | refine fa_at ?_ | refine nl_ptr ?_ | refine ex20 ?_ | refine ex21 ?_ | refine ex30 ?_ | refine ex31 ?_ | refine ex32 ?_ | refine ln_rule ?_ | refine lnT_rule ?_ | refine pu_and ?_ | refine pu_or ?_ | refine pu_xor ?_ | refine pu_seq ?_ | refine pu_sne ?_)
      refine ld_here h5 (mG m2) (v := vI x) rfl ?_
      repeat (first | refine pu_not ?_ | refine pu_eql ?_ | refine pu_neq ?_ | refine pu_lss ?_ | refine pu_leq ?_ | refine pu_gtr ?_ | refine pu_geq ?_ | refine pu_add ?_ | refine pu_sub ?_ | refine pu_mul ?_ | refine pu_neg ?_ | refine fa_at ?_ | refine nl_ptr ?_ | refine ex20 ?_ | refine ex21 ?_ | refine ex30 ?_ | refine ex31 ?_ | refine ex32 ?_ | refine ln_rule ?_ | refine lnT_rule ?_ | refine pu_and ?_ | refine pu_or ?_ | refine pu_xor ?_ | refine pu_seq ?_ | refine pu_sne ?_)
      refine ld_here h5 (mG m2) (v := a) rfl ?_
      refine new12_spec hv ha (fun y hy => mG (hX y hy)) (by omega) h5 (fun ho w6 h6 => by rw [hok] at ho; cases ho) (fun _ hb' w6 h6 => absurd hl (hb' f hx0 hf)) (fun _ f' _ hf' _ S c bx w6 hc h6 => ?_)
      rw [hf] at hf'
      cases hf'
      have good := fs_good hv hok
      have hI : Inv p s.frs := by rw [hfrs]; exact Inv.beg good hf hl hau
      obtain ⟨C, hC⟩ : ∃ C : Hp, C = (bx, cel (frow (begF x.toNat f ws) c) T.t_api_Frame) :: (S ++ F) := ⟨_, rfl⟩
      repeat (first | refine pu_not ?_ | refine pu_eql ?_ | refine pu_neq ?_ | refine pu_lss ?_ | refine pu_leq ?_ | refine pu_gtr ?_ | refine pu_geq ?_ | refine pu_add ?_ | refine pu_sub ?_ | refine pu_mul ?_ | refine pu_neg ?_ | refine fa_at ?_ | refine nl_ptr ?_ | refine ex20 ?_ | refine ex21 ?_ | refine ex30 ?_ | refine ex31 ?_ | refine ex32 ?_ | refine ln_rule ?_ | refine lnT_rule ?_ | refine pu_and ?_ | refine pu_or ?_ | refine pu_xor ?_ | refine pu_seq ?_ | refine pu_sne ?_)
      refine al_rule h6 (l := zref) zref_eq (fun b65 w7 h7 => ?_)
      refine st_here (A := []) h7 (rsC p v (.slice (some ⟨bx, 0, none⟩) 1 1) 0) rfl rfl (by simp only [List.all_cons, fsIn.plain hv]; rfl) (by simp) (fun w8 h8 => ?_)
      simp only [List.take_zero, List.nil_append, Nat.zero_add, List.drop_succ_cons, List.drop_zero, List.drop_nil, List.append_nil] at h8
      have h8 : Ow B w8 ((s.hp p ++ ((b65, cel (rsC p v (.slice (some ⟨bx, 0, none⟩) 1 1) 0) T.t_linesmanref12_Stack) :: C)) ++ ((g, cel l T.t_uint32) :: (Z ++ G))) := by
        have h9 : Ow B w8 (((b65, cel (rsC p v (.slice (some ⟨bx, 0, none⟩) 1 1) 0) T.t_linesmanref12_Stack) :: (bx, cel (frow (begF x.toNat f ws) c) T.t_api_Frame) :: S) ++ (s.hp p ++ (F ++ ((g, cel l T.t_uint32) :: (Z ++ G))))) := by simpa using h8
        have h10 := h9.perm (List.perm_append_comm_assoc _ _ _)
        rw [hC]
        simpa using h10
      refine num12_spec h8 (fun w9 h9 => ?_)
      repeat (first | refine pu_not ?_ | refine pu_eql ?_ | refine pu_neq ?_ | refine pu_lss ?_ | refine pu_leq ?_ | refine pu_gtr ?_ | refine pu_geq ?_ | refine pu_add ?_ | refine pu_sub ?_ | refine pu_mul ?_ | refine pu_neg ?_ | refine fa_at ?_ | refine nl_ptr ?_ | refine ex20 ?_ | refine ex21 ?_ | refine ex30 ?_ | refine ex31 ?_ | refine ex32 ?_ | refine ln_rule ?_ | refine lnT_rule ?_ | refine pu_and ?_ | refine pu_or ?_ | refine pu_xor ?_ | refine pu_seq ?_ | refine pu_sne ?_)
      refine cnd_f (by decide) ?_
      refine pu_pnnilS rfl ?_
      repeat (first | refine pu_not ?_ | refine pu_eql ?_ | refine pu_neq ?_ | refine pu_lss ?_ | refine pu_leq ?_ | refine pu_gtr ?_ | refine pu_geq ?_ | refine pu_add ?_ | refine pu_sub ?_ | refine pu_mul ?_ | refine pu_neg ?_ | refine fa_at ?_ | refine nl_ptr ?_ | refine ex20 ?_ | refine ex21 ?_ | refine ex30 ?_ | refine ex31 ?_ | refine ex32 ?_ | refine ln_rule ?_ | refine lnT_rule ?_ | refine pu_and ?_ | refine pu_or ?_ | refine pu_xor ?_ | refine pu_seq ?_ | refine pu_sne ?_)
      refine pu_bneq (by kernel_rfl) ?_
      refine cnd_f rfl ?_
      refine ln_rule ?_
      repeat (first | refine pu_not ?_ | refine pu_eql ?_ | refine pu_neq ?_ | refine pu_lss ?_ | refine pu_leq ?_ | refine pu_gtr ?_ | refine pu_geq ?_ | refine pu_add ?_ | refine pu_sub ?_ | refine pu_mul ?_ | refine pu_neg ?_ | refine fa_at ?_ | refine nl_ptr ?_ | refine ex20 ?_ | refine ex21 ?_ | refine ex30 ?_ | refine ex31 ?_ | refine ex32 ?_ | refine ln_rule ?_ | refine lnT_rule ?_ | refine pu_and ?_ | refine pu_or ?_ | refine pu_xor ?_ | refine pu_seq ?_ | refine pu_sne ?_)
      have e77 : IntKind.i64.wrap ((ws.length : Int) + 1) = ((ws.length + 1 : Nat) : Int) := by rw [wrap64_in (by omega) (by omega)]; omega
      rw [e77]
      refine pu_cutH und_slu usz (by omega) (by omega) ?_
      rw [Int.toNat_natCast]
      have ecut2 : Vc.cut (.slice (some ⟨g, 0, none⟩) ws.length cap) 0 (ws.length + 1) cap = .slice (some ⟨g, 0, none⟩) (ws.length + 1) cap := by
        simp only [Vc.cut]
        rw [if_neg (by omega)]
        simp [Addr.add]
      rw [ecut2]
      refine ln_rule ?_
      refine ixS_at (by omega) (by omega) ?_
      refine ld_here h9 (List.mem_append_right _ (.head _)) (v := vU 77) (by rw [Int.toNat_natCast, Nat.mul_one, Nat.zero_add]; exact h77') ?_
      repeat (first | refine pu_not ?_ | refine pu_eql ?_ | refine pu_neq ?_ | refine pu_lss ?_ | refine pu_leq ?_ | refine pu_gtr ?_ | refine pu_geq ?_ | refine pu_add ?_ | refine pu_sub ?_ | refine pu_mul ?_ | refine pu_neg ?_ | refine fa_at ?_ | refine nl_ptr ?_ | refine ex20 ?_ | refine ex21 ?_ | refine ex30 ?_ | refine ex31 ?_ | refine ex32 ?_ | refine ln_rule ?_ | refine lnT_rule ?_ | refine pu_and ?_ | refine pu_or ?_ | refine pu_xor ?_ | refine pu_seq ?_ | refine pu_sne ?_)
      refine cnd_f (by decide) ?_
      repeat (first | refine pu_not ?_ | refine pu_eql ?_ | refine pu_neq ?_ | refine pu_lss ?_ | refine pu_leq ?_ | refine pu_gtr ?_ | refine pu_geq ?_ | refine pu_add ?_ | refine pu_sub ?_ | refine pu_mul ?_ | refine pu_neg ?_ | refine fa_at ?_ | refine nl_ptr ?_ | refine ex20 ?_ | refine ex21 ?_ | refine ex30 ?_ | refine ex31 ?_ | refine ex32 ?_ | refine ln_rule ?_ | refine lnT_rule ?_ | refine pu_and ?_ | refine pu_or ?_ | refine pu_xor ?_ | refine pu_seq ?_ | refine pu_sne ?_)
      refine cnd_f (by decide) ?_
      refine ⟨fun t w => ∃ (n : Nat) (l' : List Value), t = [vI n] ∧ n ≤ ws.length ∧ l'.length = cap ∧ Ow B w ((s.hp p ++ ((b65, cel (rsC p v (.slice (some ⟨bx, 0, none⟩) 1 1) 0) T.t_linesmanref12_Stack) :: C)) ++ ((g, cel l' T.t_uint32) :: (Z ++ G))), fun t _ => match t with | [.int _ n] => ws.length - n.toNat | _ => 0, ⟨0, l, rfl, Nat.zero_le _, hll, h9⟩, ?_⟩
      rintro t w10 ⟨n, l', rfl, hn, hl', h10⟩ j
      repeat (first | refine pu_not ?_ | refine pu_eql ?_ | refine pu_neq ?_ | refine pu_lss ?_ | refine pu_leq ?_ | refine pu_gtr ?_ | refine pu_geq ?_ | refine pu_add ?_ | refine pu_sub ?_ | refine pu_mul ?_ | refine pu_neg ?_ | refine fa_at ?_ | refine nl_ptr ?_ | refine ex20 ?_ | refine ex21 ?_ | refine ex30 ?_ | refine ex31 ?_ | refine ex32 ?_ | refine ln_rule ?_ | refine lnT_rule ?_ | refine pu_and ?_ | refine pu_or ?_ | refine pu_xor ?_ | refine pu_seq ?_ | refine pu_sne ?_)
      refine cnd (fun hlt => ?_) (fun hlt => ?_)
      · have hlt : n < ws.length := by simpa using hlt
        refine ixS_at (by omega) (by omega) ?_
        refine st1_here h10 rfl rfl (by simp; omega) (fun w11 h11 => ?_)
        repeat (first | refine pu_not ?_ | refine pu_eql ?_ | refine pu_neq ?_ | refine pu_lss ?_ | refine pu_leq ?_ | refine pu_gtr ?_ | refine pu_geq ?_ | refine pu_add ?_ | refine pu_sub ?_ | refine pu_mul ?_ | refine pu_neg ?_ | refine fa_at ?_ | refine nl_ptr ?_ | refine ex20 ?_ | refine ex21 ?_ | refine ex30 ?_ | refine ex31 ?_ | refine ex32 ?_ | refine ln_rule ?_ | refine lnT_rule ?_ | refine pu_and ?_ | refine pu_or ?_ | refine pu_xor ?_ | refine pu_seq ?_ | refine pu_sne ?_)
        rw [wrap64_in (by omega) (by omega)]
        exact ⟨⟨n + 1, _, rfl, hlt, by rw [List.length_set]; exact hl', h11⟩, by simp; omega⟩
      · have h10 : Ow B w10 (s.hp p ++ (((b65, cel (rsC p v (.slice (some ⟨bx, 0, none⟩) 1 1) 0) T.t_linesmanref12_Stack) :: C) ++ ((g, cel l' T.t_uint32) :: (Z ++ G)))) := by simpa using h10
        refine ldn_here h10 (List.mem_append_right _ (.head _)) (vs := rsC p v (.slice (some ⟨bx, 0, none⟩) 1 1) 0) rfl rfl ?_
        have inC : ∀ {y}, y ∈ C → y ∈ ((b65, cel (rsC p v (.slice (some ⟨bx, 0, none⟩) 1 1) 0) T.t_linesmanref12_Stack) :: C) ++ ((g, cel l' T.t_uint32) :: (Z ++ G)) := fun h => List.mem_append_left _ (.tail _ h)
        have hres' : (0 : Int) = s.res := hres.symm
        have garg : ∀ {X : Prop}, (callW PG N.linesmanlaw12_is [ptr s.b, .agg (rsC p v (oneL bx) s.res).toArray, vI 2] (fun t108 w109 => condV t108 (callW PG N.linesmanlaw12_works [] K PK w109) (K (vB false) w109)) PK w10) → (callW PG N.linesmanlaw12_is [ptr s.b, .agg (rsC p v (oneL bx) 0).toArray, vI 2] (fun t108 w109 => condV t108 (callW PG N.linesmanlaw12_works [] K PK w109) (K (vB false) w109)) PK w10) := fun h => by rw [hres]at h; exact h
        refine garg (X := True) ?_
        refine is12_spec (m := begF x.toNat f ws) (c := c) good hI hfrs hs (fun y hy => inC (by rw [hC]; exact .tail _ (List.mem_append_right _ hy))) (inC (by rw [hC]; exact .head _)) ((Vc.Own.sl hc).mono fun y hy => inC (by rw [hC]; exact .tail _ (List.mem_append_left _ hy))) (hv.mono fun y hy => List.mem_append_right _ (.tail _ (List.mem_append_right _ (hX y hy)))) h10 (fun w11 h11 => ?_)
        refine cnd_t rfl ?_
        exact works12_spec h11 (fun w' h' => kk _ (toG (A := s.hp p ++ ((b65, cel (rsC p v (.slice (some ⟨bx, 0, none⟩) 1 1) 0) T.t_linesmanref12_Stack) :: C)) (by simpa using h')))
end
end Go.Proofs.YtkkkcafkepnecaaGreat

