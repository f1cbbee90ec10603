/- Locks: which are the same; a call by both, and how many there are then. -/
import Derived.Test.YtaifohjgamhhnaaVdO
set_option linter.unusedVariables false
set_option linter.unusedSimpArgs false
namespace Go.Proofs.Ytaifohjgamhhnaa
open Go Go.RowKit Vc Vd
attribute [local irreducible] binV Op.unary convert nlW faW ldS ldW ixS ixA ixV ixT exW lnS lnT pu stW alW opW opU bsW mkW

section
variable {B w : World} {H X F : Hp} {K : Value → World → Prop} {PK : List PanicEntry → World → Prop} {KK : Value → Prop} {L : List Lk} {m b : Nat} {i y : Int} {s : Value}
theorem rRead_len (L : List Lk) (i y : Int) : (rRead L i y).1.length = L.length := by
  unfold rRead
  split
  · rfl
  · split
    · rfl
    · exact List.length_set
theorem rWrite_len (L : List Lk) (i y : Int) : (rWrite L i y).1.length = L.length := by
  unfold rWrite
  split
  · rfl
  · split
    · rfl
    · split
      · rfl
      · exact List.length_set
theorem rUnread_len (L : List Lk) (i y : Int) : (rUnread L i y).1.length = L.length := by
  unfold rUnread
  split
  · rfl
  · split
    · rfl
    · exact List.length_set
theorem rUnwrite_len (L : List Lk) (i : Int) : (rUnwrite L i).1.length = L.length := by
  unfold rUnwrite
  split
  · rfl
  · split
    · rfl
    · exact List.length_set
theorem act_spec2 {what : Int} (lp : LP L m b F) (hm : m < 1000000) (hr : rl X s L) (hX : ∀ x, x ∈ X → x ∈ H) (h : Ow B w (F ++ H))
    (k : ∀ b' F' S s' L' w', LP L' (m + 1) b' F' → rl (S ++ X) s' L' → L'.length = L.length → Ow B w' (F' ++ (S ++ H)) → K (.tuple #[ptr b', .agg #[s'], vB true]) w') : callW PG N.linesmanlaw14_act [ptr b, .agg #[s], .agg #[vI what, vI i, vI y]] K PK w := by
  refine linesmanlaw14_act.ok ?_
  unfold linesmanlaw14_act.C
  refine al_rule h (l := [s]) rfl (fun b2 w1 h1 => ?_)
  refine al_rule h1 (l := [vI what, vI i, vI y]) rfl (fun b4 w2 h2 => ?_)
  refine al_rule h2 (l := [.slice none 0 0]) (by kernel_rfl) (fun b6 w3 h3 => ?_)
  have hXX : ∀ x, x ∈ X → x ∈ (b6, cel [.slice none 0 0] T.t_linesmanref14_Locks) :: (b4, cel [vI what, vI i, vI y] T.t_linesmanlaw14_Act) :: (b2, cel [s] T.t_linesmanref14_Locks) :: (F ++ H) := fun x hx => .tail _ (.tail _ (.tail _ (List.mem_append_right _ (hX x hx))))
  repeat (first | refine pu_not ?_ | refine pu_eql ?_ | refine pu_neq ?_ | refine pu_lss ?_ | refine pu_leq ?_ | refine pu_gtr ?_ | refine pu_geq ?_ | refine pu_add ?_ | refine pu_sub ?_ | refine pu_mul ?_ | refine pu_neg ?_ | refine fa_at ?_ | refine nl_ptr ?_ | refine ex20 ?_ | refine ex21 ?_ | refine ex30 ?_ | refine ex31 ?_ | refine ex32 ?_ | refine ln_rule ?_ | refine lnT_rule ?_ | refine pu_and ?_ | refine pu_or ?_ | refine pu_xor ?_ | refine pu_seq ?_ | refine pu_sne ?_)
  refine ld_here h3 (.tail _ (.head _)) rfl ?_
  repeat (first | refine pu_not ?_ | refine pu_eql ?_ | refine pu_neq ?_ | refine pu_lss ?_ | refine pu_leq ?_ | refine pu_gtr ?_ | refine pu_geq ?_ | refine pu_add ?_ | refine pu_sub ?_ | refine pu_mul ?_ | refine pu_neg ?_ | refine fa_at ?_ | refine nl_ptr ?_ | refine ex20 ?_ | refine ex21 ?_ | refine ex30 ?_ | refine ex31 ?_ | refine ex32 ?_ | refine ln_rule ?_ | refine lnT_rule ?_ | refine pu_and ?_ | refine pu_or ?_ | refine pu_xor ?_ | refine pu_seq ?_ | refine pu_sne ?_)
  refine cnd (fun h0 => ?_) (fun h0 => ?_)
  · refine cnd_t h0 ?_
    refine ld1 h3 (.tail _ (.tail _ (.head _))) ?_
    repeat (first | refine pu_not ?_ | refine pu_eql ?_ | refine pu_neq ?_ | refine pu_lss ?_ | refine pu_leq ?_ | refine pu_gtr ?_ | refine pu_geq ?_ | refine pu_add ?_ | refine pu_sub ?_ | refine pu_mul ?_ | refine pu_neg ?_ | refine fa_at ?_ | refine nl_ptr ?_ | refine ex20 ?_ | refine ex21 ?_ | refine ex30 ?_ | refine ex31 ?_ | refine ex32 ?_ | refine ln_rule ?_ | refine lnT_rule ?_ | refine pu_and ?_ | refine pu_or ?_ | refine pu_xor ?_ | refine pu_seq ?_ | refine pu_sne ?_)
    refine ld_here h3 (.tail _ (.head _)) rfl ?_
    repeat (first | refine pu_not ?_ | refine pu_eql ?_ | refine pu_neq ?_ | refine pu_lss ?_ | refine pu_leq ?_ | refine pu_gtr ?_ | refine pu_geq ?_ | refine pu_add ?_ | refine pu_sub ?_ | refine pu_mul ?_ | refine pu_neg ?_ | refine fa_at ?_ | refine nl_ptr ?_ | refine ex20 ?_ | refine ex21 ?_ | refine ex30 ?_ | refine ex31 ?_ | refine ex32 ?_ | refine ln_rule ?_ | refine lnT_rule ?_ | refine pu_and ?_ | refine pu_or ?_ | refine pu_xor ?_ | refine pu_seq ?_ | refine pu_sne ?_)
    refine ld_here h3 (.tail _ (.head _)) rfl ?_
    refine refRead_spec h3 hr hXX lp.wf hm (fun S s' w4 r4 h4 => ?_)
    repeat (first | refine pu_not ?_ | refine pu_eql ?_ | refine pu_neq ?_ | refine pu_lss ?_ | refine pu_leq ?_ | refine pu_gtr ?_ | refine pu_geq ?_ | refine pu_add ?_ | refine pu_sub ?_ | refine pu_mul ?_ | refine pu_neg ?_ | refine fa_at ?_ | refine nl_ptr ?_ | refine ex20 ?_ | refine ex21 ?_ | refine ex30 ?_ | refine ex31 ?_ | refine ex32 ?_ | refine ln_rule ?_ | refine lnT_rule ?_ | refine pu_and ?_ | refine pu_or ?_ | refine pu_xor ?_ | refine pu_seq ?_ | refine pu_sne ?_)
    refine al_rule h4 (l := [.slice none 0 0]) (by kernel_rfl) (fun bo w5 h5 => ?_)
    refine st1s (A := []) h5 (rl.plain r4) (fun w6 h6 => ?_)
    have h6 : Ow B w6 (F ++ (((bo, cel [s'] T.t_linesmanref14_Locks) :: (S ++ [(b6, cel [.slice none 0 0] T.t_linesmanref14_Locks), (b4, xo what i y), (b2, cel [s] T.t_linesmanref14_Locks)])) ++ H)) := front (by simpa using h6)
    have mx : (b4, xo what i y) ∈ (F ++ (((bo, cel [s'] T.t_linesmanref14_Locks) :: (S ++ [(b6, cel [.slice none 0 0] T.t_linesmanref14_Locks), (b4, xo what i y), (b2, cel [s] T.t_linesmanref14_Locks)])) ++ H)) := List.mem_append_right _ (List.mem_append_left _ (.tail _ (List.mem_append_right _ (.tail _ (.head _)))))
    refine ⟨fun w => Ow B w [(bo, cel [s'] T.t_linesmanref14_Locks), (b4, xo what i y)], h6.drew.sub sub2, ?_⟩
    refine lds1 (fun w h => h) (.head _) ?_
    repeat (first | refine pu_not ?_ | refine pu_eql ?_ | refine pu_neq ?_ | refine pu_lss ?_ | refine pu_leq ?_ | refine pu_gtr ?_ | refine pu_geq ?_ | refine pu_add ?_ | refine pu_sub ?_ | refine pu_mul ?_ | refine pu_neg ?_ | refine fa_at ?_ | refine nl_ptr ?_ | refine ex20 ?_ | refine ex21 ?_ | refine ex30 ?_ | refine ex31 ?_ | refine ex32 ?_ | refine ln_rule ?_ | refine lnT_rule ?_ | refine pu_and ?_ | refine pu_or ?_ | refine pu_xor ?_ | refine pu_seq ?_ | refine pu_sne ?_)
    refine lds_here (fun w h => h) (.tail _ (.head _)) rfl ?_
    repeat (first | refine pu_not ?_ | refine pu_eql ?_ | refine pu_neq ?_ | refine pu_lss ?_ | refine pu_leq ?_ | refine pu_gtr ?_ | refine pu_geq ?_ | refine pu_add ?_ | refine pu_sub ?_ | refine pu_mul ?_ | refine pu_neg ?_ | refine fa_at ?_ | refine nl_ptr ?_ | refine ex20 ?_ | refine ex21 ?_ | refine ex30 ?_ | refine ex31 ?_ | refine ex32 ?_ | refine ln_rule ?_ | refine lnT_rule ?_ | refine pu_and ?_ | refine pu_or ?_ | refine pu_xor ?_ | refine pu_seq ?_ | refine pu_sne ?_)
    refine lds_here (fun w h => h) (.tail _ (.head _)) rfl ?_
    refine read_spec lp hm h6.drew (fun F' w7 lp' h7 => ?_)
    refine ⟨h7.sub sub2, ?_⟩
    refine num_spec h7 (fun w8 h8 => ?_)
    refine ⟨h8.sub sub2, ?_⟩
    refine eqi ?_
    have h8 : Ow B w8 ((F' ++ ((bo, cel [s'] T.t_linesmanref14_Locks) :: S)) ++ (b6, cel [.slice none 0 0] T.t_linesmanref14_Locks) :: ((b4, xo what i y) :: (b2, cel [s] T.t_linesmanref14_Locks) :: H)) := by simpa using h8
    refine st1s h8 (rl.plain r4) (fun w9 h9 => ?_)
    refine ⟨Ow.sub (H := F' ++ (((bo, cel [s'] T.t_linesmanref14_Locks) :: (S ++ [(b6, cel [s'] T.t_linesmanref14_Locks), (b4, xo what i y), (b2, cel [s] T.t_linesmanref14_Locks)])) ++ H)) (by simpa using h9) sub2, ?_⟩
    refine ld1 h9 (List.mem_append_right _ (.head _)) ?_
    refine k b F' S s' _ w9 lp' r4 (by first | exact rRead_len _ _ _ | exact rWrite_len _ _ _ | exact rUnread_len _ _ _ | exact rUnwrite_len _ _) (h9.sub ?_)
    rw [List.append_assoc]
    exact (List.Sublist.refl F').append (.cons _ ((List.Sublist.refl S).append (.cons _ (.cons _ (.cons _ (.refl _))))))
  repeat (first | refine pu_not ?_ | refine pu_eql ?_ | refine pu_neq ?_ | refine pu_lss ?_ | refine pu_leq ?_ | refine pu_gtr ?_ | refine pu_geq ?_ | refine pu_add ?_ | refine pu_sub ?_ | refine pu_mul ?_ | refine pu_neg ?_ | refine fa_at ?_ | refine nl_ptr ?_ | refine ex20 ?_ | refine ex21 ?_ | refine ex30 ?_ | refine ex31 ?_ | refine ex32 ?_ | refine ln_rule ?_ | refine lnT_rule ?_ | refine pu_and ?_ | refine pu_or ?_ | refine pu_xor ?_ | refine pu_seq ?_ | refine pu_sne ?_)
  refine cnd (fun h1 => ?_) (fun h1 => ?_)
  · refine cnd_t h1 ?_
    refine ld1 h3 (.tail _ (.tail _ (.head _))) ?_
    repeat (first | refine pu_not ?_ | refine pu_eql ?_ | refine pu_neq ?_ | refine pu_lss ?_ | refine pu_leq ?_ | refine pu_gtr ?_ | refine pu_geq ?_ | refine pu_add ?_ | refine pu_sub ?_ | refine pu_mul ?_ | refine pu_neg ?_ | refine fa_at ?_ | refine nl_ptr ?_ | refine ex20 ?_ | refine ex21 ?_ | refine ex30 ?_ | refine ex31 ?_ | refine ex32 ?_ | refine ln_rule ?_ | refine lnT_rule ?_ | refine pu_and ?_ | refine pu_or ?_ | refine pu_xor ?_ | refine pu_seq ?_ | refine pu_sne ?_)
    refine ld_here h3 (.tail _ (.head _)) rfl ?_
    repeat (first | refine pu_not ?_ | refine pu_eql ?_ | refine pu_neq ?_ | refine pu_lss ?_ | refine pu_leq ?_ | refine pu_gtr ?_ | refine pu_geq ?_ | refine pu_add ?_ | refine pu_sub ?_ | refine pu_mul ?_ | refine pu_neg ?_ | refine fa_at ?_ | refine nl_ptr ?_ | refine ex20 ?_ | refine ex21 ?_ | refine ex30 ?_ | refine ex31 ?_ | refine ex32 ?_ | refine ln_rule ?_ | refine lnT_rule ?_ | refine pu_and ?_ | refine pu_or ?_ | refine pu_xor ?_ | refine pu_seq ?_ | refine pu_sne ?_)
    refine ld_here h3 (.tail _ (.head _)) rfl ?_
    refine refRead_spec h3 hr hXX lp.wf hm (fun S s' w4 r4 h4 => ?_)
    repeat (first | refine pu_not ?_ | refine pu_eql ?_ | refine pu_neq ?_ | refine pu_lss ?_ | refine pu_leq ?_ | refine pu_gtr ?_ | refine pu_geq ?_ | refine pu_add ?_ | refine pu_sub ?_ | refine pu_mul ?_ | refine pu_neg ?_ | refine fa_at ?_ | refine nl_ptr ?_ | refine ex20 ?_ | refine ex21 ?_ | refine ex30 ?_ | refine ex31 ?_ | refine ex32 ?_ | refine ln_rule ?_ | refine lnT_rule ?_ | refine pu_and ?_ | refine pu_or ?_ | refine pu_xor ?_ | refine pu_seq ?_ | refine pu_sne ?_)
    refine al_rule h4 (l := [.slice none 0 0]) (by kernel_rfl) (fun bo w5 h5 => ?_)
    refine st1s (A := []) h5 (rl.plain r4) (fun w6 h6 => ?_)
    have h6 : Ow B w6 (F ++ (((bo, cel [s'] T.t_linesmanref14_Locks) :: (S ++ [(b6, cel [.slice none 0 0] T.t_linesmanref14_Locks), (b4, xo what i y), (b2, cel [s] T.t_linesmanref14_Locks)])) ++ H)) := front (by simpa using h6)
    have mx : (b4, xo what i y) ∈ (F ++ (((bo, cel [s'] T.t_linesmanref14_Locks) :: (S ++ [(b6, cel [.slice none 0 0] T.t_linesmanref14_Locks), (b4, xo what i y), (b2, cel [s] T.t_linesmanref14_Locks)])) ++ H)) := List.mem_append_right _ (List.mem_append_left _ (.tail _ (List.mem_append_right _ (.tail _ (.head _)))))
    refine ⟨fun w => Ow B w [(bo, cel [s'] T.t_linesmanref14_Locks), (b4, xo what i y)], h6.drew.sub sub2, ?_⟩
    refine lds1 (fun w h => h) (.head _) ?_
    repeat (first | refine pu_not ?_ | refine pu_eql ?_ | refine pu_neq ?_ | refine pu_lss ?_ | refine pu_leq ?_ | refine pu_gtr ?_ | refine pu_geq ?_ | refine pu_add ?_ | refine pu_sub ?_ | refine pu_mul ?_ | refine pu_neg ?_ | refine fa_at ?_ | refine nl_ptr ?_ | refine ex20 ?_ | refine ex21 ?_ | refine ex30 ?_ | refine ex31 ?_ | refine ex32 ?_ | refine ln_rule ?_ | refine lnT_rule ?_ | refine pu_and ?_ | refine pu_or ?_ | refine pu_xor ?_ | refine pu_seq ?_ | refine pu_sne ?_)
    refine lds_here (fun w h => h) (.tail _ (.head _)) rfl ?_
    repeat (first | refine pu_not ?_ | refine pu_eql ?_ | refine pu_neq ?_ | refine pu_lss ?_ | refine pu_leq ?_ | refine pu_gtr ?_ | refine pu_geq ?_ | refine pu_add ?_ | refine pu_sub ?_ | refine pu_mul ?_ | refine pu_neg ?_ | refine fa_at ?_ | refine nl_ptr ?_ | refine ex20 ?_ | refine ex21 ?_ | refine ex30 ?_ | refine ex31 ?_ | refine ex32 ?_ | refine ln_rule ?_ | refine lnT_rule ?_ | refine pu_and ?_ | refine pu_or ?_ | refine pu_xor ?_ | refine pu_seq ?_ | refine pu_sne ?_)
    refine lds_here (fun w h => h) (.tail _ (.head _)) rfl ?_
    refine read_spec lp hm h6.drew (fun F' w7 lp' h7 => ?_)
    refine ⟨h7.sub sub2, ?_⟩
    refine num_spec h7 (fun w8 h8 => ?_)
    refine ⟨h8.sub sub2, ?_⟩
    refine eqi ?_
    have h8 : Ow B w8 ((F' ++ ((bo, cel [s'] T.t_linesmanref14_Locks) :: S)) ++ (b6, cel [.slice none 0 0] T.t_linesmanref14_Locks) :: ((b4, xo what i y) :: (b2, cel [s] T.t_linesmanref14_Locks) :: H)) := by simpa using h8
    refine st1s h8 (rl.plain r4) (fun w9 h9 => ?_)
    refine ⟨Ow.sub (H := F' ++ (((bo, cel [s'] T.t_linesmanref14_Locks) :: (S ++ [(b6, cel [s'] T.t_linesmanref14_Locks), (b4, xo what i y), (b2, cel [s] T.t_linesmanref14_Locks)])) ++ H)) (by simpa using h9) sub2, ?_⟩
    refine ld1 h9 (List.mem_append_right _ (.head _)) ?_
    refine k b F' S s' _ w9 lp' r4 (by first | exact rRead_len _ _ _ | exact rWrite_len _ _ _ | exact rUnread_len _ _ _ | exact rUnwrite_len _ _) (h9.sub ?_)
    rw [List.append_assoc]
    exact (List.Sublist.refl F').append (.cons _ ((List.Sublist.refl S).append (.cons _ (.cons _ (.cons _ (.refl _))))))
  repeat (first | refine pu_not ?_ | refine pu_eql ?_ | refine pu_neq ?_ | refine pu_lss ?_ | refine pu_leq ?_ | refine pu_gtr ?_ | refine pu_geq ?_ | refine pu_add ?_ | refine pu_sub ?_ | refine pu_mul ?_ | refine pu_neg ?_ | refine fa_at ?_ | refine nl_ptr ?_ | refine ex20 ?_ | refine ex21 ?_ | refine ex30 ?_ | refine ex31 ?_ | refine ex32 ?_ | refine ln_rule ?_ | refine lnT_rule ?_ | refine pu_and ?_ | refine pu_or ?_ | refine pu_xor ?_ | refine pu_seq ?_ | refine pu_sne ?_)
  refine cnd (fun h2 => ?_) (fun h2 => ?_)
  · refine ld1 h3 (.tail _ (.tail _ (.head _))) ?_
    repeat (first | refine pu_not ?_ | refine pu_eql ?_ | refine pu_neq ?_ | refine pu_lss ?_ | refine pu_leq ?_ | refine pu_gtr ?_ | refine pu_geq ?_ | refine pu_add ?_ | refine pu_sub ?_ | refine pu_mul ?_ | refine pu_neg ?_ | refine fa_at ?_ | refine nl_ptr ?_ | refine ex20 ?_ | refine ex21 ?_ | refine ex30 ?_ | refine ex31 ?_ | refine ex32 ?_ | refine ln_rule ?_ | refine lnT_rule ?_ | refine pu_and ?_ | refine pu_or ?_ | refine pu_xor ?_ | refine pu_seq ?_ | refine pu_sne ?_)
    refine ld_here h3 (.tail _ (.head _)) rfl ?_
    repeat (first | refine pu_not ?_ | refine pu_eql ?_ | refine pu_neq ?_ | refine pu_lss ?_ | refine pu_leq ?_ | refine pu_gtr ?_ | refine pu_geq ?_ | refine pu_add ?_ | refine pu_sub ?_ | refine pu_mul ?_ | refine pu_neg ?_ | refine fa_at ?_ | refine nl_ptr ?_ | refine ex20 ?_ | refine ex21 ?_ | refine ex30 ?_ | refine ex31 ?_ | refine ex32 ?_ | refine ln_rule ?_ | refine lnT_rule ?_ | refine pu_and ?_ | refine pu_or ?_ | refine pu_xor ?_ | refine pu_seq ?_ | refine pu_sne ?_)
    refine ld_here h3 (.tail _ (.head _)) rfl ?_
    refine refRead_spec h3 hr hXX lp.wf hm (fun S s' w4 r4 h4 => ?_)
    repeat (first | refine pu_not ?_ | refine pu_eql ?_ | refine pu_neq ?_ | refine pu_lss ?_ | refine pu_leq ?_ | refine pu_gtr ?_ | refine pu_geq ?_ | refine pu_add ?_ | refine pu_sub ?_ | refine pu_mul ?_ | refine pu_neg ?_ | refine fa_at ?_ | refine nl_ptr ?_ | refine ex20 ?_ | refine ex21 ?_ | refine ex30 ?_ | refine ex31 ?_ | refine ex32 ?_ | refine ln_rule ?_ | refine lnT_rule ?_ | refine pu_and ?_ | refine pu_or ?_ | refine pu_xor ?_ | refine pu_seq ?_ | refine pu_sne ?_)
    refine al_rule h4 (l := [.slice none 0 0]) (by kernel_rfl) (fun bo w5 h5 => ?_)
    refine st1s (A := []) h5 (rl.plain r4) (fun w6 h6 => ?_)
    have h6 : Ow B w6 (F ++ (((bo, cel [s'] T.t_linesmanref14_Locks) :: (S ++ [(b6, cel [.slice none 0 0] T.t_linesmanref14_Locks), (b4, xo what i y), (b2, cel [s] T.t_linesmanref14_Locks)])) ++ H)) := front (by simpa using h6)
    have mx : (b4, xo what i y) ∈ (F ++ (((bo, cel [s'] T.t_linesmanref14_Locks) :: (S ++ [(b6, cel [.slice none 0 0] T.t_linesmanref14_Locks), (b4, xo what i y), (b2, cel [s] T.t_linesmanref14_Locks)])) ++ H)) := List.mem_append_right _ (List.mem_append_left _ (.tail _ (List.mem_append_right _ (.tail _ (.head _)))))
    refine ⟨fun w => Ow B w [(bo, cel [s'] T.t_linesmanref14_Locks), (b4, xo what i y)], h6.drew.sub sub2, ?_⟩
    refine lds1 (fun w h => h) (.head _) ?_
    repeat (first | refine pu_not ?_ | refine pu_eql ?_ | refine pu_neq ?_ | refine pu_lss ?_ | refine pu_leq ?_ | refine pu_gtr ?_ | refine pu_geq ?_ | refine pu_add ?_ | refine pu_sub ?_ | refine pu_mul ?_ | refine pu_neg ?_ | refine fa_at ?_ | refine nl_ptr ?_ | refine ex20 ?_ | refine ex21 ?_ | refine ex30 ?_ | refine ex31 ?_ | refine ex32 ?_ | refine ln_rule ?_ | refine lnT_rule ?_ | refine pu_and ?_ | refine pu_or ?_ | refine pu_xor ?_ | refine pu_seq ?_ | refine pu_sne ?_)
    refine lds_here (fun w h => h) (.tail _ (.head _)) rfl ?_
    repeat (first | refine pu_not ?_ | refine pu_eql ?_ | refine pu_neq ?_ | refine pu_lss ?_ | refine pu_leq ?_ | refine pu_gtr ?_ | refine pu_geq ?_ | refine pu_add ?_ | refine pu_sub ?_ | refine pu_mul ?_ | refine pu_neg ?_ | refine fa_at ?_ | refine nl_ptr ?_ | refine ex20 ?_ | refine ex21 ?_ | refine ex30 ?_ | refine ex31 ?_ | refine ex32 ?_ | refine ln_rule ?_ | refine lnT_rule ?_ | refine pu_and ?_ | refine pu_or ?_ | refine pu_xor ?_ | refine pu_seq ?_ | refine pu_sne ?_)
    refine lds_here (fun w h => h) (.tail _ (.head _)) rfl ?_
    refine read_spec lp hm h6.drew (fun F' w7 lp' h7 => ?_)
    refine ⟨h7.sub sub2, ?_⟩
    refine num_spec h7 (fun w8 h8 => ?_)
    refine ⟨h8.sub sub2, ?_⟩
    refine eqi ?_
    have h8 : Ow B w8 ((F' ++ ((bo, cel [s'] T.t_linesmanref14_Locks) :: S)) ++ (b6, cel [.slice none 0 0] T.t_linesmanref14_Locks) :: ((b4, xo what i y) :: (b2, cel [s] T.t_linesmanref14_Locks) :: H)) := by simpa using h8
    refine st1s h8 (rl.plain r4) (fun w9 h9 => ?_)
    refine ⟨Ow.sub (H := F' ++ (((bo, cel [s'] T.t_linesmanref14_Locks) :: (S ++ [(b6, cel [s'] T.t_linesmanref14_Locks), (b4, xo what i y), (b2, cel [s] T.t_linesmanref14_Locks)])) ++ H)) (by simpa using h9) sub2, ?_⟩
    refine ld1 h9 (List.mem_append_right _ (.head _)) ?_
    refine k b F' S s' _ w9 lp' r4 (by first | exact rRead_len _ _ _ | exact rWrite_len _ _ _ | exact rUnread_len _ _ _ | exact rUnwrite_len _ _) (h9.sub ?_)
    rw [List.append_assoc]
    exact (List.Sublist.refl F').append (.cons _ ((List.Sublist.refl S).append (.cons _ (.cons _ (.cons _ (.refl _))))))
  repeat (first | refine pu_not ?_ | refine pu_eql ?_ | refine pu_neq ?_ | refine pu_lss ?_ | refine pu_leq ?_ | refine pu_gtr ?_ | refine pu_geq ?_ | refine pu_add ?_ | refine pu_sub ?_ | refine pu_mul ?_ | refine pu_neg ?_ | refine fa_at ?_ | refine nl_ptr ?_ | refine ex20 ?_ | refine ex21 ?_ | refine ex30 ?_ | refine ex31 ?_ | refine ex32 ?_ | refine ln_rule ?_ | refine lnT_rule ?_ | refine pu_and ?_ | refine pu_or ?_ | refine pu_xor ?_ | refine pu_seq ?_ | refine pu_sne ?_)
  refine cnd (fun h30 => ?_) (fun h30 => ?_)
  · refine cnd_t h30 ?_
    refine ld1 h3 (.tail _ (.tail _ (.head _))) ?_
    repeat (first | refine pu_not ?_ | refine pu_eql ?_ | refine pu_neq ?_ | refine pu_lss ?_ | refine pu_leq ?_ | refine pu_gtr ?_ | refine pu_geq ?_ | refine pu_add ?_ | refine pu_sub ?_ | refine pu_mul ?_ | refine pu_neg ?_ | refine fa_at ?_ | refine nl_ptr ?_ | refine ex20 ?_ | refine ex21 ?_ | refine ex30 ?_ | refine ex31 ?_ | refine ex32 ?_ | refine ln_rule ?_ | refine lnT_rule ?_ | refine pu_and ?_ | refine pu_or ?_ | refine pu_xor ?_ | refine pu_seq ?_ | refine pu_sne ?_)
    refine ld_here h3 (.tail _ (.head _)) rfl ?_
    repeat (first | refine pu_not ?_ | refine pu_eql ?_ | refine pu_neq ?_ | refine pu_lss ?_ | refine pu_leq ?_ | refine pu_gtr ?_ | refine pu_geq ?_ | refine pu_add ?_ | refine pu_sub ?_ | refine pu_mul ?_ | refine pu_neg ?_ | refine fa_at ?_ | refine nl_ptr ?_ | refine ex20 ?_ | refine ex21 ?_ | refine ex30 ?_ | refine ex31 ?_ | refine ex32 ?_ | refine ln_rule ?_ | refine lnT_rule ?_ | refine pu_and ?_ | refine pu_or ?_ | refine pu_xor ?_ | refine pu_seq ?_ | refine pu_sne ?_)
    refine ld_here h3 (.tail _ (.head _)) rfl ?_
    refine refUnread_spec h3 hr hXX lp.wf hm (fun S s' w4 r4 h4 => ?_)
    repeat (first | refine pu_not ?_ | refine pu_eql ?_ | refine pu_neq ?_ | refine pu_lss ?_ | refine pu_leq ?_ | refine pu_gtr ?_ | refine pu_geq ?_ | refine pu_add ?_ | refine pu_sub ?_ | refine pu_mul ?_ | refine pu_neg ?_ | refine fa_at ?_ | refine nl_ptr ?_ | refine ex20 ?_ | refine ex21 ?_ | refine ex30 ?_ | refine ex31 ?_ | refine ex32 ?_ | refine ln_rule ?_ | refine lnT_rule ?_ | refine pu_and ?_ | refine pu_or ?_ | refine pu_xor ?_ | refine pu_seq ?_ | refine pu_sne ?_)
    refine al_rule h4 (l := [.slice none 0 0]) (by kernel_rfl) (fun bo w5 h5 => ?_)
    refine st1s (A := []) h5 (rl.plain r4) (fun w6 h6 => ?_)
    have h6 : Ow B w6 (F ++ (((bo, cel [s'] T.t_linesmanref14_Locks) :: (S ++ [(b6, cel [.slice none 0 0] T.t_linesmanref14_Locks), (b4, xo what i y), (b2, cel [s] T.t_linesmanref14_Locks)])) ++ H)) := front (by simpa using h6)
    have mx : (b4, xo what i y) ∈ (F ++ (((bo, cel [s'] T.t_linesmanref14_Locks) :: (S ++ [(b6, cel [.slice none 0 0] T.t_linesmanref14_Locks), (b4, xo what i y), (b2, cel [s] T.t_linesmanref14_Locks)])) ++ H)) := List.mem_append_right _ (List.mem_append_left _ (.tail _ (List.mem_append_right _ (.tail _ (.head _)))))
    repeat (first | refine pu_not ?_ | refine pu_eql ?_ | refine pu_neq ?_ | refine pu_lss ?_ | refine pu_leq ?_ | refine pu_gtr ?_ | refine pu_geq ?_ | refine pu_add ?_ | refine pu_sub ?_ | refine pu_mul ?_ | refine pu_neg ?_ | refine fa_at ?_ | refine nl_ptr ?_ | refine ex20 ?_ | refine ex21 ?_ | refine ex30 ?_ | refine ex31 ?_ | refine ex32 ?_ | refine ln_rule ?_ | refine lnT_rule ?_ | refine pu_and ?_ | refine pu_or ?_ | refine pu_xor ?_ | refine pu_seq ?_ | refine pu_sne ?_)
    refine ld_here h6 mx rfl ?_
    repeat (first | refine pu_not ?_ | refine pu_eql ?_ | refine pu_neq ?_ | refine pu_lss ?_ | refine pu_leq ?_ | refine pu_gtr ?_ | refine pu_geq ?_ | refine pu_add ?_ | refine pu_sub ?_ | refine pu_mul ?_ | refine pu_neg ?_ | refine fa_at ?_ | refine nl_ptr ?_ | refine ex20 ?_ | refine ex21 ?_ | refine ex30 ?_ | refine ex31 ?_ | refine ex32 ?_ | refine ln_rule ?_ | refine lnT_rule ?_ | refine pu_and ?_ | refine pu_or ?_ | refine pu_xor ?_ | refine pu_seq ?_ | refine pu_sne ?_)
    refine ld_here h6 mx rfl ?_
    refine unread_spec lp hm h6 (fun F' w7 lp' h7 => ?_)
    have lp' := lp'.mono (n := m + 1) (by omega)
    repeat (first | refine pu_not ?_ | refine pu_eql ?_ | refine pu_neq ?_ | refine pu_lss ?_ | refine pu_leq ?_ | refine pu_gtr ?_ | refine pu_geq ?_ | refine pu_add ?_ | refine pu_sub ?_ | refine pu_mul ?_ | refine pu_neg ?_ | refine fa_at ?_ | refine nl_ptr ?_ | refine ex20 ?_ | refine ex21 ?_ | refine ex30 ?_ | refine ex31 ?_ | refine ex32 ?_ | refine ln_rule ?_ | refine lnT_rule ?_ | refine pu_and ?_ | refine pu_or ?_ | refine pu_xor ?_ | refine pu_seq ?_ | refine pu_sne ?_)
    refine ⟨fun w => Ow B w [(bo, cel [s'] T.t_linesmanref14_Locks)], h7.drew.sub sub1, ?_⟩
    refine lds1 (fun w h => h) (.head _) ?_
    refine eqi ?_
    refine cnd_t rfl ?_
    refine num_spec h7.drew (fun w8 h8 => ?_)
    refine ⟨h8.sub sub1, ?_⟩
    refine eqi ?_
    have h8 : Ow B w8 ((F' ++ ((bo, cel [s'] T.t_linesmanref14_Locks) :: S)) ++ (b6, cel [.slice none 0 0] T.t_linesmanref14_Locks) :: ((b4, xo what i y) :: (b2, cel [s] T.t_linesmanref14_Locks) :: H)) := by simpa using h8
    refine st1s h8 (rl.plain r4) (fun w9 h9 => ?_)
    refine ld1 h9 (List.mem_append_right _ (.head _)) ?_
    refine k b F' S s' _ w9 lp' r4 (by first | exact rRead_len _ _ _ | exact rWrite_len _ _ _ | exact rUnread_len _ _ _ | exact rUnwrite_len _ _) (h9.sub ?_)
    rw [List.append_assoc]
    exact (List.Sublist.refl F').append (.cons _ ((List.Sublist.refl S).append (.cons _ (.cons _ (.cons _ (.refl _))))))
  repeat (first | refine pu_not ?_ | refine pu_eql ?_ | refine pu_neq ?_ | refine pu_lss ?_ | refine pu_leq ?_ | refine pu_gtr ?_ | refine pu_geq ?_ | refine pu_add ?_ | refine pu_sub ?_ | refine pu_mul ?_ | refine pu_neg ?_ | refine fa_at ?_ | refine nl_ptr ?_ | refine ex20 ?_ | refine ex21 ?_ | refine ex30 ?_ | refine ex31 ?_ | refine ex32 ?_ | refine ln_rule ?_ | refine lnT_rule ?_ | refine pu_and ?_ | refine pu_or ?_ | refine pu_xor ?_ | refine pu_seq ?_ | refine pu_sne ?_)
  refine cnd (fun h40 => ?_) (fun h40 => ?_)
  · refine ld1 h3 (.tail _ (.tail _ (.head _))) ?_
    repeat (first | refine pu_not ?_ | refine pu_eql ?_ | refine pu_neq ?_ | refine pu_lss ?_ | refine pu_leq ?_ | refine pu_gtr ?_ | refine pu_geq ?_ | refine pu_add ?_ | refine pu_sub ?_ | refine pu_mul ?_ | refine pu_neg ?_ | refine fa_at ?_ | refine nl_ptr ?_ | refine ex20 ?_ | refine ex21 ?_ | refine ex30 ?_ | refine ex31 ?_ | refine ex32 ?_ | refine ln_rule ?_ | refine lnT_rule ?_ | refine pu_and ?_ | refine pu_or ?_ | refine pu_xor ?_ | refine pu_seq ?_ | refine pu_sne ?_)
    refine ld_here h3 (.tail _ (.head _)) rfl ?_
    repeat (first | refine pu_not ?_ | refine pu_eql ?_ | refine pu_neq ?_ | refine pu_lss ?_ | refine pu_leq ?_ | refine pu_gtr ?_ | refine pu_geq ?_ | refine pu_add ?_ | refine pu_sub ?_ | refine pu_mul ?_ | refine pu_neg ?_ | refine fa_at ?_ | refine nl_ptr ?_ | refine ex20 ?_ | refine ex21 ?_ | refine ex30 ?_ | refine ex31 ?_ | refine ex32 ?_ | refine ln_rule ?_ | refine lnT_rule ?_ | refine pu_and ?_ | refine pu_or ?_ | refine pu_xor ?_ | refine pu_seq ?_ | refine pu_sne ?_)
    refine ld_here h3 (.tail _ (.head _)) rfl ?_
    refine refUnread_spec h3 hr hXX lp.wf hm (fun S s' w4 r4 h4 => ?_)
    repeat (first | refine pu_not ?_ | refine pu_eql ?_ | refine pu_neq ?_ | refine pu_lss ?_ | refine pu_leq ?_ | refine pu_gtr ?_ | refine pu_geq ?_ | refine pu_add ?_ | refine pu_sub ?_ | refine pu_mul ?_ | refine pu_neg ?_ | refine fa_at ?_ | refine nl_ptr ?_ | refine ex20 ?_ | refine ex21 ?_ | refine ex30 ?_ | refine ex31 ?_ | refine ex32 ?_ | refine ln_rule ?_ | refine lnT_rule ?_ | refine pu_and ?_ | refine pu_or ?_ | refine pu_xor ?_ | refine pu_seq ?_ | refine pu_sne ?_)
    refine al_rule h4 (l := [.slice none 0 0]) (by kernel_rfl) (fun bo w5 h5 => ?_)
    refine st1s (A := []) h5 (rl.plain r4) (fun w6 h6 => ?_)
    have h6 : Ow B w6 (F ++ (((bo, cel [s'] T.t_linesmanref14_Locks) :: (S ++ [(b6, cel [.slice none 0 0] T.t_linesmanref14_Locks), (b4, xo what i y), (b2, cel [s] T.t_linesmanref14_Locks)])) ++ H)) := front (by simpa using h6)
    have mx : (b4, xo what i y) ∈ (F ++ (((bo, cel [s'] T.t_linesmanref14_Locks) :: (S ++ [(b6, cel [.slice none 0 0] T.t_linesmanref14_Locks), (b4, xo what i y), (b2, cel [s] T.t_linesmanref14_Locks)])) ++ H)) := List.mem_append_right _ (List.mem_append_left _ (.tail _ (List.mem_append_right _ (.tail _ (.head _)))))
    repeat (first | refine pu_not ?_ | refine pu_eql ?_ | refine pu_neq ?_ | refine pu_lss ?_ | refine pu_leq ?_ | refine pu_gtr ?_ | refine pu_geq ?_ | refine pu_add ?_ | refine pu_sub ?_ | refine pu_mul ?_ | refine pu_neg ?_ | refine fa_at ?_ | refine nl_ptr ?_ | refine ex20 ?_ | refine ex21 ?_ | refine ex30 ?_ | refine ex31 ?_ | refine ex32 ?_ | refine ln_rule ?_ | refine lnT_rule ?_ | refine pu_and ?_ | refine pu_or ?_ | refine pu_xor ?_ | refine pu_seq ?_ | refine pu_sne ?_)
    refine ld_here h6 mx rfl ?_
    repeat (first | refine pu_not ?_ | refine pu_eql ?_ | refine pu_neq ?_ | refine pu_lss ?_ | refine pu_leq ?_ | refine pu_gtr ?_ | refine pu_geq ?_ | refine pu_add ?_ | refine pu_sub ?_ | refine pu_mul ?_ | refine pu_neg ?_ | refine fa_at ?_ | refine nl_ptr ?_ | refine ex20 ?_ | refine ex21 ?_ | refine ex30 ?_ | refine ex31 ?_ | refine ex32 ?_ | refine ln_rule ?_ | refine lnT_rule ?_ | refine pu_and ?_ | refine pu_or ?_ | refine pu_xor ?_ | refine pu_seq ?_ | refine pu_sne ?_)
    refine ld_here h6 mx rfl ?_
    refine unread_spec lp hm h6 (fun F' w7 lp' h7 => ?_)
    have lp' := lp'.mono (n := m + 1) (by omega)
    repeat (first | refine pu_not ?_ | refine pu_eql ?_ | refine pu_neq ?_ | refine pu_lss ?_ | refine pu_leq ?_ | refine pu_gtr ?_ | refine pu_geq ?_ | refine pu_add ?_ | refine pu_sub ?_ | refine pu_mul ?_ | refine pu_neg ?_ | refine fa_at ?_ | refine nl_ptr ?_ | refine ex20 ?_ | refine ex21 ?_ | refine ex30 ?_ | refine ex31 ?_ | refine ex32 ?_ | refine ln_rule ?_ | refine lnT_rule ?_ | refine pu_and ?_ | refine pu_or ?_ | refine pu_xor ?_ | refine pu_seq ?_ | refine pu_sne ?_)
    refine ⟨fun w => Ow B w [(bo, cel [s'] T.t_linesmanref14_Locks)], h7.drew.sub sub1, ?_⟩
    refine lds1 (fun w h => h) (.head _) ?_
    refine eqi ?_
    refine cnd_t rfl ?_
    refine num_spec h7.drew (fun w8 h8 => ?_)
    refine ⟨h8.sub sub1, ?_⟩
    refine eqi ?_
    have h8 : Ow B w8 ((F' ++ ((bo, cel [s'] T.t_linesmanref14_Locks) :: S)) ++ (b6, cel [.slice none 0 0] T.t_linesmanref14_Locks) :: ((b4, xo what i y) :: (b2, cel [s] T.t_linesmanref14_Locks) :: H)) := by simpa using h8
    refine st1s h8 (rl.plain r4) (fun w9 h9 => ?_)
    refine ld1 h9 (List.mem_append_right _ (.head _)) ?_
    refine k b F' S s' _ w9 lp' r4 (by first | exact rRead_len _ _ _ | exact rWrite_len _ _ _ | exact rUnread_len _ _ _ | exact rUnwrite_len _ _) (h9.sub ?_)
    rw [List.append_assoc]
    exact (List.Sublist.refl F').append (.cons _ ((List.Sublist.refl S).append (.cons _ (.cons _ (.cons _ (.refl _))))))
  repeat (first | refine pu_not ?_ | refine pu_eql ?_ | refine pu_neq ?_ | refine pu_lss ?_ | refine pu_leq ?_ | refine pu_gtr ?_ | refine pu_geq ?_ | refine pu_add ?_ | refine pu_sub ?_ | refine pu_mul ?_ | refine pu_neg ?_ | refine fa_at ?_ | refine nl_ptr ?_ | refine ex20 ?_ | refine ex21 ?_ | refine ex30 ?_ | refine ex31 ?_ | refine ex32 ?_ | refine ln_rule ?_ | refine lnT_rule ?_ | refine pu_and ?_ | refine pu_or ?_ | refine pu_xor ?_ | refine pu_seq ?_ | refine pu_sne ?_)
  refine cnd (fun h50 => ?_) (fun h50 => ?_)
  · refine ld1 h3 (.tail _ (.tail _ (.head _))) ?_
    repeat (first | refine pu_not ?_ | refine pu_eql ?_ | refine pu_neq ?_ | refine pu_lss ?_ | refine pu_leq ?_ | refine pu_gtr ?_ | refine pu_geq ?_ | refine pu_add ?_ | refine pu_sub ?_ | refine pu_mul ?_ | refine pu_neg ?_ | refine fa_at ?_ | refine nl_ptr ?_ | refine ex20 ?_ | refine ex21 ?_ | refine ex30 ?_ | refine ex31 ?_ | refine ex32 ?_ | refine ln_rule ?_ | refine lnT_rule ?_ | refine pu_and ?_ | refine pu_or ?_ | refine pu_xor ?_ | refine pu_seq ?_ | refine pu_sne ?_)
    refine ld_here h3 (.tail _ (.head _)) rfl ?_
    repeat (first | refine pu_not ?_ | refine pu_eql ?_ | refine pu_neq ?_ | refine pu_lss ?_ | refine pu_leq ?_ | refine pu_gtr ?_ | refine pu_geq ?_ | refine pu_add ?_ | refine pu_sub ?_ | refine pu_mul ?_ | refine pu_neg ?_ | refine fa_at ?_ | refine nl_ptr ?_ | refine ex20 ?_ | refine ex21 ?_ | refine ex30 ?_ | refine ex31 ?_ | refine ex32 ?_ | refine ln_rule ?_ | refine lnT_rule ?_ | refine pu_and ?_ | refine pu_or ?_ | refine pu_xor ?_ | refine pu_seq ?_ | refine pu_sne ?_)
    refine ld_here h3 (.tail _ (.head _)) rfl ?_
    refine refWrite_spec h3 hr hXX lp.wf hm (fun S s' w4 r4 h4 => ?_)
    repeat (first | refine pu_not ?_ | refine pu_eql ?_ | refine pu_neq ?_ | refine pu_lss ?_ | refine pu_leq ?_ | refine pu_gtr ?_ | refine pu_geq ?_ | refine pu_add ?_ | refine pu_sub ?_ | refine pu_mul ?_ | refine pu_neg ?_ | refine fa_at ?_ | refine nl_ptr ?_ | refine ex20 ?_ | refine ex21 ?_ | refine ex30 ?_ | refine ex31 ?_ | refine ex32 ?_ | refine ln_rule ?_ | refine lnT_rule ?_ | refine pu_and ?_ | refine pu_or ?_ | refine pu_xor ?_ | refine pu_seq ?_ | refine pu_sne ?_)
    refine al_rule h4 (l := [.slice none 0 0]) (by kernel_rfl) (fun bo w5 h5 => ?_)
    refine st1s (A := []) h5 (rl.plain r4) (fun w6 h6 => ?_)
    have h6 : Ow B w6 (F ++ (((bo, cel [s'] T.t_linesmanref14_Locks) :: (S ++ [(b6, cel [.slice none 0 0] T.t_linesmanref14_Locks), (b4, xo what i y), (b2, cel [s] T.t_linesmanref14_Locks)])) ++ H)) := front (by simpa using h6)
    have mx : (b4, xo what i y) ∈ (F ++ (((bo, cel [s'] T.t_linesmanref14_Locks) :: (S ++ [(b6, cel [.slice none 0 0] T.t_linesmanref14_Locks), (b4, xo what i y), (b2, cel [s] T.t_linesmanref14_Locks)])) ++ H)) := List.mem_append_right _ (List.mem_append_left _ (.tail _ (List.mem_append_right _ (.tail _ (.head _)))))
    refine ⟨fun w => Ow B w [(bo, cel [s'] T.t_linesmanref14_Locks), (b4, xo what i y)], h6.drew.sub sub2, ?_⟩
    refine lds1 (fun w h => h) (.head _) ?_
    repeat (first | refine pu_not ?_ | refine pu_eql ?_ | refine pu_neq ?_ | refine pu_lss ?_ | refine pu_leq ?_ | refine pu_gtr ?_ | refine pu_geq ?_ | refine pu_add ?_ | refine pu_sub ?_ | refine pu_mul ?_ | refine pu_neg ?_ | refine fa_at ?_ | refine nl_ptr ?_ | refine ex20 ?_ | refine ex21 ?_ | refine ex30 ?_ | refine ex31 ?_ | refine ex32 ?_ | refine ln_rule ?_ | refine lnT_rule ?_ | refine pu_and ?_ | refine pu_or ?_ | refine pu_xor ?_ | refine pu_seq ?_ | refine pu_sne ?_)
    refine lds_here (fun w h => h) (.tail _ (.head _)) rfl ?_
    repeat (first | refine pu_not ?_ | refine pu_eql ?_ | refine pu_neq ?_ | refine pu_lss ?_ | refine pu_leq ?_ | refine pu_gtr ?_ | refine pu_geq ?_ | refine pu_add ?_ | refine pu_sub ?_ | refine pu_mul ?_ | refine pu_neg ?_ | refine fa_at ?_ | refine nl_ptr ?_ | refine ex20 ?_ | refine ex21 ?_ | refine ex30 ?_ | refine ex31 ?_ | refine ex32 ?_ | refine ln_rule ?_ | refine lnT_rule ?_ | refine pu_and ?_ | refine pu_or ?_ | refine pu_xor ?_ | refine pu_seq ?_ | refine pu_sne ?_)
    refine lds_here (fun w h => h) (.tail _ (.head _)) rfl ?_
    refine write_spec lp hm h6.drew (fun F' w7 lp' h7 => ?_)
    have lp' := lp'.mono (n := m + 1) (by omega)
    refine ⟨h7.sub sub2, ?_⟩
    refine num_spec h7 (fun w8 h8 => ?_)
    refine ⟨h8.sub sub2, ?_⟩
    refine eqi ?_
    have h8 : Ow B w8 ((F' ++ ((bo, cel [s'] T.t_linesmanref14_Locks) :: S)) ++ (b6, cel [.slice none 0 0] T.t_linesmanref14_Locks) :: ((b4, xo what i y) :: (b2, cel [s] T.t_linesmanref14_Locks) :: H)) := by simpa using h8
    refine st1s h8 (rl.plain r4) (fun w9 h9 => ?_)
    refine ⟨Ow.sub (H := F' ++ (((bo, cel [s'] T.t_linesmanref14_Locks) :: (S ++ [(b6, cel [s'] T.t_linesmanref14_Locks), (b4, xo what i y), (b2, cel [s] T.t_linesmanref14_Locks)])) ++ H)) (by simpa using h9) sub2, ?_⟩
    refine ld1 h9 (List.mem_append_right _ (.head _)) ?_
    refine k b F' S s' _ w9 lp' r4 (by first | exact rRead_len _ _ _ | exact rWrite_len _ _ _ | exact rUnread_len _ _ _ | exact rUnwrite_len _ _) (h9.sub ?_)
    rw [List.append_assoc]
    exact (List.Sublist.refl F').append (.cons _ ((List.Sublist.refl S).append (.cons _ (.cons _ (.cons _ (.refl _))))))
  repeat (first | refine pu_not ?_ | refine pu_eql ?_ | refine pu_neq ?_ | refine pu_lss ?_ | refine pu_leq ?_ | refine pu_gtr ?_ | refine pu_geq ?_ | refine pu_add ?_ | refine pu_sub ?_ | refine pu_mul ?_ | refine pu_neg ?_ | refine fa_at ?_ | refine nl_ptr ?_ | refine ex20 ?_ | refine ex21 ?_ | refine ex30 ?_ | refine ex31 ?_ | refine ex32 ?_ | refine ln_rule ?_ | refine lnT_rule ?_ | refine pu_and ?_ | refine pu_or ?_ | refine pu_xor ?_ | refine pu_seq ?_ | refine pu_sne ?_)
  refine cnd (fun h60 => ?_) (fun h60 => ?_)
  · refine ld1 h3 (.tail _ (.tail _ (.head _))) ?_
    repeat (first | refine pu_not ?_ | refine pu_eql ?_ | refine pu_neq ?_ | refine pu_lss ?_ | refine pu_leq ?_ | refine pu_gtr ?_ | refine pu_geq ?_ | refine pu_add ?_ | refine pu_sub ?_ | refine pu_mul ?_ | refine pu_neg ?_ | refine fa_at ?_ | refine nl_ptr ?_ | refine ex20 ?_ | refine ex21 ?_ | refine ex30 ?_ | refine ex31 ?_ | refine ex32 ?_ | refine ln_rule ?_ | refine lnT_rule ?_ | refine pu_and ?_ | refine pu_or ?_ | refine pu_xor ?_ | refine pu_seq ?_ | refine pu_sne ?_)
    refine ld_here h3 (.tail _ (.head _)) rfl ?_
    refine refUnwrite_spec h3 hr hXX lp.wf hm (fun S s' w4 r4 h4 => ?_)
    repeat (first | refine pu_not ?_ | refine pu_eql ?_ | refine pu_neq ?_ | refine pu_lss ?_ | refine pu_leq ?_ | refine pu_gtr ?_ | refine pu_geq ?_ | refine pu_add ?_ | refine pu_sub ?_ | refine pu_mul ?_ | refine pu_neg ?_ | refine fa_at ?_ | refine nl_ptr ?_ | refine ex20 ?_ | refine ex21 ?_ | refine ex30 ?_ | refine ex31 ?_ | refine ex32 ?_ | refine ln_rule ?_ | refine lnT_rule ?_ | refine pu_and ?_ | refine pu_or ?_ | refine pu_xor ?_ | refine pu_seq ?_ | refine pu_sne ?_)
    refine al_rule h4 (l := [.slice none 0 0]) (by kernel_rfl) (fun bo w5 h5 => ?_)
    refine st1s (A := []) h5 (rl.plain r4) (fun w6 h6 => ?_)
    have h6 : Ow B w6 (F ++ (((bo, cel [s'] T.t_linesmanref14_Locks) :: (S ++ [(b6, cel [.slice none 0 0] T.t_linesmanref14_Locks), (b4, xo what i y), (b2, cel [s] T.t_linesmanref14_Locks)])) ++ H)) := front (by simpa using h6)
    have mx : (b4, xo what i y) ∈ (F ++ (((bo, cel [s'] T.t_linesmanref14_Locks) :: (S ++ [(b6, cel [.slice none 0 0] T.t_linesmanref14_Locks), (b4, xo what i y), (b2, cel [s] T.t_linesmanref14_Locks)])) ++ H)) := List.mem_append_right _ (List.mem_append_left _ (.tail _ (List.mem_append_right _ (.tail _ (.head _)))))
    repeat (first | refine pu_not ?_ | refine pu_eql ?_ | refine pu_neq ?_ | refine pu_lss ?_ | refine pu_leq ?_ | refine pu_gtr ?_ | refine pu_geq ?_ | refine pu_add ?_ | refine pu_sub ?_ | refine pu_mul ?_ | refine pu_neg ?_ | refine fa_at ?_ | refine nl_ptr ?_ | refine ex20 ?_ | refine ex21 ?_ | refine ex30 ?_ | refine ex31 ?_ | refine ex32 ?_ | refine ln_rule ?_ | refine lnT_rule ?_ | refine pu_and ?_ | refine pu_or ?_ | refine pu_xor ?_ | refine pu_seq ?_ | refine pu_sne ?_)
    refine ld_here h6 mx rfl ?_
    refine unwrite_spec lp hm h6 (fun F' w7 lp' h7 => ?_)
    have lp' := lp'.mono (n := m + 1) (by omega)
    repeat (first | refine pu_not ?_ | refine pu_eql ?_ | refine pu_neq ?_ | refine pu_lss ?_ | refine pu_leq ?_ | refine pu_gtr ?_ | refine pu_geq ?_ | refine pu_add ?_ | refine pu_sub ?_ | refine pu_mul ?_ | refine pu_neg ?_ | refine fa_at ?_ | refine nl_ptr ?_ | refine ex20 ?_ | refine ex21 ?_ | refine ex30 ?_ | refine ex31 ?_ | refine ex32 ?_ | refine ln_rule ?_ | refine lnT_rule ?_ | refine pu_and ?_ | refine pu_or ?_ | refine pu_xor ?_ | refine pu_seq ?_ | refine pu_sne ?_)
    refine ⟨fun w => Ow B w [(bo, cel [s'] T.t_linesmanref14_Locks)], h7.drew.sub sub1, ?_⟩
    refine lds1 (fun w h => h) (.head _) ?_
    refine eqi ?_
    refine cnd_t rfl ?_
    refine num_spec h7.drew (fun w8 h8 => ?_)
    refine ⟨h8.sub sub1, ?_⟩
    refine eqi ?_
    have h8 : Ow B w8 ((F' ++ ((bo, cel [s'] T.t_linesmanref14_Locks) :: S)) ++ (b6, cel [.slice none 0 0] T.t_linesmanref14_Locks) :: ((b4, xo what i y) :: (b2, cel [s] T.t_linesmanref14_Locks) :: H)) := by simpa using h8
    refine st1s h8 (rl.plain r4) (fun w9 h9 => ?_)
    refine ld1 h9 (List.mem_append_right _ (.head _)) ?_
    refine k b F' S s' _ w9 lp' r4 (by first | exact rRead_len _ _ _ | exact rWrite_len _ _ _ | exact rUnread_len _ _ _ | exact rUnwrite_len _ _) (h9.sub ?_)
    rw [List.append_assoc]
    exact (List.Sublist.refl F').append (.cons _ ((List.Sublist.refl S).append (.cons _ (.cons _ (.cons _ (.refl _))))))
  refine ⟨fun w => Ow B w [(b2, cel [s] T.t_linesmanref14_Locks)], h3.drew.sub (.cons _ (.cons _ (.cons_cons _ (List.nil_sublist _)))), ?_⟩
  refine lds1 (fun w h => h) (.head _) ?_
  have h4 : Ow B w3.drew (F ++ ([(b6, cel [.slice none 0 0] T.t_linesmanref14_Locks), (b4, xo what i y), (b2, cel [s] T.t_linesmanref14_Locks)] ++ H)) := front h3.drew
  refine copy_spec lp hm h4 (fun b' F' w5 lp' h5 => ?_)
  have h5 : Ow B w5 (F' ++ ([(b6, cel [.slice none 0 0] T.t_linesmanref14_Locks), (b4, xo what i y), (b2, cel [s] T.t_linesmanref14_Locks)] ++ H)) := h5.sub ((List.Sublist.refl F').append (List.sublist_append_right _ _))
  refine ⟨h5.sub (List.singleton_sublist.2 (List.mem_append_right _ (.tail _ (.tail _ (.head _))))), ?_⟩
  refine st1s h5 (rl.plain hr) (fun w6 h6 => ?_)
  refine ld1 h6 (List.mem_append_right _ (.head _)) ?_
  exact k b' F' [] s L w6 (lp'.mono (by omega)) hr rfl (h6.sub ((List.Sublist.refl F').append (.cons _ (.cons _ (.cons _ (.refl _))))))
end
end Go.Proofs.Ytaifohjgamhhnaa
