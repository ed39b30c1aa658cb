/-
  Heaps with what the statements know of them: the turns that store.
-/
import Derived.Test.YtlpknbkgkhnfcaaSub
set_option linter.unusedSimpArgs false
set_option linter.unusedVariables false
namespace Go.Proofs.Ytlpknbkgkhnfcaa
open Go Go.Mm Go.RowKit
variable {R : Ending → World → Prop} {w : World}

theorem meE_blk (k : Int × Int) (b : Nat) (l : List (Int × Int)) : meE (k, b, l) = ⟨b, blk [] slf l [], 38, true⟩ := by simp [meE, blk]
theorem lenV_lit (b n : Nat) : LenV Try.prog 32 (.slice (some ⟨b, 0, none⟩) n n) n := ⟨⟨_, _, rfl⟩, 38, Try.underlying32⟩
def Ph1 (w0 : World) (bs : List Nat) (X : List Ent) (e e' : Ent) : Nat → World → Prop
  | 0, w => St w0 bs w (e :: X)
  | _ + 1, w => St w0 bs w (e' :: X)
theorem ph1_com {w0 : World} {bs : List Nat} {X : List Ent} {e e' : Ent} : ∀ q w, Ph1 w0 bs X e e' q w → St w0 bs w X := by
  intro q w h
  match q, h with
  | 0, h => exact St.weak (show St w0 bs w ([e] ++ X) from h)
  | _ + 1, h => exact St.weak (show St w0 bs w ([e'] ++ X) from h)

set_option maxHeartbeats 2000000 in
set_option maxRecDepth 100000 in
theorem turn_out {W : World} {bm n : Nat} {f : Int} {k : Nat} {H : List Ent} (hk : k ≤ 400) (hMA : MA W bm n f k H w) (a i c : Nat) (ha : a ≤ 255) (hi : i ≤ 255) (hc : c ≤ 255) (h4 : a % 4 = 3) (h7 : c % 8 ≠ 7) (hst : ∀ w', MA W bm n f (k + 1) H w' → Ret R (.bool true) w')
    {L : List Hs} {ins gone : List (Int × Int)} {ms : List Me} {w0 : World} {bs : List Nat} {M : Nat} {ph : Option Addr} {vi vg : Value} {E Ei Eg : List Ent} (hB : Base W w0 bs M (ms.map meV)) (hS : St w0 bs w (moE bm ph M vi vg :: (E ++ (Ei ++ (Eg ++ (ms.map meE ++ H))))))
    (hT : HA ph (HL L) E) (hvi : RS vi ins Ei) (hvg : RS vg gone Eg) (hMo : Mo n f k L ins gone ms) {m : Nat} (hm : ins.length = m) (hm0 : 0 < m) {rs rg : Int} (hr : ins.getD (i % m) (0, 0) = (rs, rg)) {j : Nat} {gb : Nat} {l : List (Int × Int)}
    (hj : ms[j]? = some ((rs, rg), gb, l)) (hob : ObIs L (rs, rg) l) (hll : l.length ≤ c % 4) : Calls Try.prog 13 #[.pointer (some ⟨bm, 0, none⟩), .agg #[.int .u8 a, .int .u8 i, .int .u8 c]] w R := by
  have hR := hst
  clear hst hMA
  have hone := hvi.one
  have hone2 := hvg.one
  have hm' := Lib.hid hm
  have hln : LenV Try.prog 32 vi m := hvi.len hm
  have hl4 := (hMo.fd4 _ (List.mem_of_getElem? hj)).1
  simp only at hl4
  have ra : RemIs (a : Int) 4 3 := ⟨by rw [Int.tmod_eq_emod_of_nonneg (by omega)]; omega, by decide⟩
  obtain ⟨qi, hqi⟩ : ∃ q, i % m = q := ⟨_, rfl⟩
  obtain ⟨qk, hqk⟩ : ∃ q, c % m = q := ⟨_, rfl⟩
  obtain ⟨c8, hc8⟩ : ∃ q, c % 8 = q := ⟨_, rfl⟩
  obtain ⟨c4, hc4⟩ : ∃ q, c % 4 = q := ⟨_, rfl⟩
  rw [hqi] at hr
  rw [hc8] at h7
  rw [hc4] at hll
  have hqim : qi < m := by rw [← hqi]; exact Nat.mod_lt _ hm0
  have hqkm : qk < m := by rw [← hqk]; exact Nat.mod_lt _ hm0
  have r1 : RemIs (i : Int) (m : Int) (qi : Int) := ⟨by rw [Int.tmod_eq_emod_of_nonneg (by omega)]; omega, by omega⟩
  have r2 : RemIs (c : Int) (m : Int) (qk : Int) := ⟨by rw [Int.tmod_eq_emod_of_nonneg (by omega)]; omega, by omega⟩
  have r3 : RemIs (c : Int) 8 (c8 : Int) := ⟨by rw [Int.tmod_eq_emod_of_nonneg (by omega)]; omega, by decide⟩
  have r4 : RemIs (c : Int) 4 (c4 : Int) := ⟨by rw [Int.tmod_eq_emod_of_nonneg (by omega)]; omega, by decide⟩
  have si : Small (i : Int) := ⟨by omega, by omega⟩
  have sc : Small (c : Int) := ⟨by omega, by omega⟩
  have d1 : ((m : Int) == 0) = false := by simp; omega
  have d1' : decide ((m : Int) = 0) = false := decide_eq_false (by omega)
  have d1'' : decide (m = 0) = false := decide_eq_false (by omega)
  have d7 : ((c8 : Int) == 7) = false := by simp; omega
  have d7' : decide ((c8 : Int) = 7) = false := decide_eq_false (by omega)
  have d7'' : decide (c8 = 7) = false := decide_eq_false (by omega)
  obtain ⟨⟨xs, xg⟩, hx⟩ : ∃ x, ins.getD qk (0, 0) = x := ⟨_, rfl⟩
  have hqil : qi < ins.length := by omega
  have hqkl : qk < ins.length := by omega
  obtain ⟨gi, spi, ii, hHi, hci⟩ := hvi.at hqil hr
  obtain ⟨gk, spk, ik, hHk, hck⟩ := hvi.at hqkl hx
  have ii := ii qi rfl
  have ik := ik qk rfl
  simp only at hci hck
  have hrm : (rs, rg) ∈ ins := by rw [← hr, List.getD_eq_getElem?_getD, List.getElem?_eq_getElem hqil]; exact List.getElem_mem hqil
  have hxm : (xs, xg) ∈ ins := by rw [← hx, List.getD_eq_getElem?_getD, List.getElem?_eq_getElem hqkl]; exact List.getElem_mem hqkl
  have hxg : 0 ≤ xg ∧ xg ≤ 4294967295 := by
    obtain ⟨_, _, _, _, _, h5, h6⟩ := hMo.rg hxm
    simp only at h5 h6; omega
  obtain ⟨h1, h2, h3⟩ := hMo.out hob c4 hll (xs, xg)
  have q5 := refE (refB_self 0 0)
  have dl : decide ((l.length : Int) ≤ (c4 : Int)) = true := decide_eq_true (by omega)
  have dl' : decide (l.length ≤ c4) = true := decide_eq_true (by omega)
  have hlk : ∀ w H, St w0 bs w H → LookIs Try.prog w 31 M #[.int .i64 rs, .int .u32 rg] false (.slice (some ⟨gb, 0, none⟩) l.length l.length) := fun w H hS => look_me (hB.now hS) hMo.ks hj rfl false
  have hlv := lenV_lit gb l.length
  obtain ⟨A1, hA1⟩ : ∃ A1, (ms.take j).map meE = A1 := ⟨_, rfl⟩
  obtain ⟨A2, hA2⟩ : ∃ A2, (ms.drop (j + 1)).map meE = A2 := ⟨_, rfl⟩
  rw [me_split hj, hA1, hA2, meE_blk] at hS
  simp only [List.append_assoc, List.cons_append] at hS
  have hA1' := Lib.hid hA1
  have hA2' := Lib.hid hA2
  have h1' := Lib.hid h1
  have h2' := Lib.hid h2
  have h3' := Lib.hid h3
  have hj' := Lib.hid hj
  clear h1 h2 h3 hr hx hqi hqk hc8 hc4 hA1 hA2 hj hm h4
  go_enter Try.func13, Try.ntmps13
  go_wp2_with (first | go_skip | (refine wpList_is (.box 29 _) rfl ?_; go_must (refine wpList_stp (by kernel_rfl) (stp_bx _ _ rfl hS ?_)); clear hS; intro bt w _ hS) | (refine wpList_is (.binOp .rem _ _ _ _) rfl ?_; refine wpList_stp (by kernel_rfl) (stp_val (run_remv _ _ _ _ rfl) ?_)) | go_skip | (refine wpList_is (.call { callee := .builtin .len, args := #[_], argTypes := #[_] }) rfl ?_; refine wpList_stp (by kernel_rfl) (stp_val (run_lenv _ _ rfl) ?_)) | (refine wpList_is (.slice _ _ none (some _) none) rfl ?_; refine wpList_stp (by kernel_rfl) (stp_val (run_prev _ _ _ rfl) ?_)) | (refine wpList_is (.indexAddr _ _ _) rfl ?_; refine wpList_stp (by kernel_rfl) (stp_val (run_idxv _ _ _ rfl) ?_)) | go_skip | (refine wpList_is (.build _ _) rfl ?_; go_must (refine wpList_stp (by kernel_rfl) (stp_val (run_bd _ _ rfl) ?_))) | (refine wpList_is (.call { callee := .builtin .clear, args := #[_], argTypes := #[_] }) rfl ?_; go_must (refine wpList_stp (by kernel_rfl) (stp_cl _ _ rfl hS (by decide) ?_)); clear hS; intro w hS) | (refine wpList_is (.load _ _) rfl ?_; go_must (first | refine wpList_stp (by kernel_rfl) (stp_val (run_ld _ _ rfl hS) ?_) | refine wpList_stp (by kernel_rfl) (stp_val (run_lda _ _ rfl hS) ?_) | refine wpList_stp (by kernel_rfl) (stp_val (run_ld0 _ _ rfl hS) ?_) | refine wpList_stp (by kernel_rfl) (stp_val (run_lda0 _ _ rfl hS) ?_))) | (refine wpList_is (.store _ _ _) rfl ?_; go_must (first | refine wpList_stp (by kernel_rfl) (stp_st _ _ _ rfl hS ?_) | refine wpList_stp (by kernel_rfl) (stp_sta _ _ _ rfl hS ?_)); clear hS; intro w hS) | (refine wpList_is (.alloc _) rfl ?_; go_must (refine wpList_stp (by kernel_rfl) (stp_al _ rfl hS ?_)); clear hS; intro bN w hbN hS) | (refine wpList_is (.box _ _) rfl ?_; go_must (refine wpList_stp (by kernel_rfl) (stp_bx _ _ rfl hS ?_)); clear hS; intro bN w hbN hS) | (refine wpList_is (.binOp .eql _ _ (.const (.slice none _ _)) _) rfl ?_; refine wpList_stp (by kernel_rfl) (stp_val (run_nse _ _ _ rfl) ?_)) | (refine wpList_is (.binOp .neq _ _ (.const (.slice none _ _)) _) rfl ?_; refine wpList_stp (by kernel_rfl) (stp_val (run_nsn _ _ _ rfl) ?_)))
  have hS : St w0 bs w (⟨bt, #[.int .u8 a, .int .u8 i, .int .u8 c], 29, true⟩ :: moE bm ph M vi vg :: ⟨gb, blk [] slf l [], 38, true⟩ :: (E ++ (Ei ++ (Eg ++ (A1 ++ (A2 ++ H)))))) := hS.pick
  refine region_itemsE [⟨(undef, []), [(11, fun _ x => ∃ b, x = (.pointer (some ⟨b, 0, none⟩), [⟨b, #[.int .i64 0, .int .u32 0], 38, true⟩])), (12, fun y x => ∃ b, y.1 = .pointer (some ⟨b, 0, none⟩) ∧ x.2 = [⟨b, #[.int .i64 rs, .int .u32 rg], 38, true⟩])]⟩]
    (⟨bt, #[.int .u8 a, .int .u8 i, .int .u8 c], 29, true⟩ :: moE bm ph M vi vg :: ⟨gb, blk [] slf l [], 38, true⟩ :: (E ++ (Ei ++ (Eg ++ (A1 ++ (A2 ++ H)))))) (⟨bt, #[.int .u8 a, .int .u8 i, .int .u8 c], 29, true⟩ :: moE bm ph M vi vg :: ⟨gb, blk [] slf l [], 38, true⟩ :: (E ++ (Ei ++ (Eg ++ (A1 ++ (A2 ++ H)))))) (by simp) hS (by kernel_rfl) (by kernel_rfl) ?_
  first | (refine fx_val (fun _ => rfl) rfl (fun χ w hw => run_remv _ _ _ _ rfl) ?_) | (refine fx_val (fun _ => rfl) rfl (fun χ w hw => run_cvn _ _ _ rfl) ?_) | (refine fx_val (fun _ => rfl) rfl (fun χ w hw => run_mv _ rfl) ?_)
  first | (refine fx_val (fun _ => rfl) rfl (fun χ w hw => run_remv _ _ _ _ rfl) ?_) | (refine fx_val (fun _ => rfl) rfl (fun χ w hw => run_cvn _ _ _ rfl) ?_) | (refine fx_val (fun _ => rfl) rfl (fun χ w hw => run_nc _ rfl) ?_)
  first | (refine fx_val (fun _ => rfl) rfl (fun χ w hw => run_remv _ _ _ _ rfl) ?_) | (refine fx_val (fun _ => rfl) rfl (fun χ w hw => run_cvn _ _ _ rfl) ?_) | (refine fx_val (fun _ => rfl) rfl (fun χ w hw => run_fa _ _ _ rfl) ?_)
  first | (refine fx_val (fun _ => rfl) rfl (fun χ w hw => run_remv _ _ _ _ rfl) ?_) | (refine fx_val (fun _ => rfl) rfl (fun χ w hw => run_cvn _ _ _ rfl) ?_) | (refine fx_val (fun _ => rfl) rfl (fun χ w hw => run_ld _ _ rfl hw) ?_)
  first | (refine fx_val (fun _ => rfl) rfl (fun χ w hw => run_remv _ _ _ _ rfl) ?_) | (refine fx_val (fun _ => rfl) rfl (fun χ w hw => run_cvn _ _ _ rfl) ?_) | (refine fx_val (fun _ => rfl) rfl (fun χ w hw => run_fa _ _ _ rfl) ?_)
  first | (refine fx_val (fun _ => rfl) rfl (fun χ w hw => run_remv _ _ _ _ rfl) ?_) | (refine fx_val (fun _ => rfl) rfl (fun χ w hw => run_cvn _ _ _ rfl) ?_) | (refine fx_val (fun _ => rfl) rfl (fun χ w hw => run_ld _ _ rfl hw) ?_)
  first | (refine fx_val (fun _ => rfl) rfl (fun χ w hw => run_remv _ _ _ _ rfl) ?_) | (refine fx_val (fun _ => rfl) rfl (fun χ w hw => run_cvn _ _ _ rfl) ?_) | (first | (refine fx_val (fun _ => rfl) rfl (fun χ w hw => run_mv _ rfl) ?_) | (refine fx_val (fun _ => rfl) rfl (fun χ w hw => run_as _ rfl) ?_) | (refine fx_val (fun _ => rfl) rfl (fun χ w hw => run_fa _ _ _ rfl) ?_) | (refine fx_val (fun _ => rfl) rfl (fun χ w hw => run_ld _ _ rfl hw) ?_) | (refine fx_val (fun _ => rfl) rfl (fun χ w hw => run_lda _ _ rfl hw) ?_) | (refine fx_val (fun _ => rfl) rfl (fun χ w hw => run_ld0 _ _ rfl hw) ?_) | (refine fx_val (fun _ => rfl) rfl (fun χ w hw => run_lda0 _ _ rfl hw) ?_) | (refine fx_val (fun _ => rfl) rfl (fun χ w hw => run_ine _ _ _ _ rfl) ?_) | (refine fx_val (fun _ => rfl) rfl (fun χ w hw => run_aeq _ _ _ _ rfl) ?_) | (refine fx_val (fun _ => rfl) rfl (fun χ w hw => run_ane _ _ _ _ rfl) ?_) | (refine fx_val (fun _ => rfl) rfl (fun χ w hw => run_lenv _ _ rfl) ?_) | (refine fx_val (fun _ => rfl) rfl (fun χ w hw => run_idxv _ _ _ rfl) ?_) | (refine fx_val (fun _ => rfl) rfl (fun χ w hw => run_pk1 _ _ _ rfl) ?_) | (refine fx_val (fun _ => rfl) rfl (fun χ w hw => run_pk2 _ _ _ rfl) ?_) | (refine fx_val (fun _ => rfl) rfl (fun χ w hw => run_nse _ _ _ rfl) ?_) | (refine fx_val (fun _ => rfl) rfl (fun χ w hw => run_nsn _ _ _ rfl) ?_) | (refine fx_val (fun _ => rfl) rfl (fun χ w hw => run_bd _ _ rfl) ?_) | (refine fx_val (fun _ => rfl) rfl (fun χ w hw => run_ieq _ _ _ _ rfl) ?_) | (refine fx_val (fun _ => rfl) rfl (fun χ w hw => run_beq _ _ _ _ rfl) ?_) | (refine fx_val (fun _ => rfl) rfl (fun χ w hw => run_bne _ _ _ _ rfl) ?_) | (refine fx_val (fun _ => rfl) rfl (fun χ w hw => run_bnot _ _ rfl) ?_) | (refine fx_val (fun _ => rfl) rfl (fun χ w hw => run_ext _ _ rfl) ?_) | (refine fx_val (fun _ => rfl) rfl (fun χ w hw => run_ilit _ _ _ _ rfl) ?_) | (refine fx_val (fun _ => rfl) rfl (fun χ w hw => run_cvn _ _ _ rfl) ?_) | (refine fx_val (fun _ => rfl) rfl (fun χ w hw => run_remn _ _ _ _ rfl (by decide)) ?_) | (refine fx_val (fun _ => rfl) rfl (fun χ w hw => run_nc _ rfl) ?_) | (refine fx_val (fun _ => rfl) rfl (fun χ w hw => run_inlit _ _ _ _ rfl) ?_) | (refine fx_skip (fun _ => rfl) ?_))
  first | (refine fx_val (fun _ => rfl) rfl (fun χ w hw => run_remv _ _ _ _ rfl) ?_) | (refine fx_val (fun _ => rfl) rfl (fun χ w hw => run_cvn _ _ _ rfl) ?_) | (refine fx_val (fun _ => rfl) rfl (fun χ w hw => run_mv _ rfl) ?_)
  first | (refine fx_val (fun _ => rfl) rfl (fun χ w hw => run_remv _ _ _ _ rfl) ?_) | (refine fx_val (fun _ => rfl) rfl (fun χ w hw => run_cvn _ _ _ rfl) ?_) | (first | (refine fx_val (fun _ => rfl) rfl (fun χ w hw => run_mv _ rfl) ?_) | (refine fx_val (fun _ => rfl) rfl (fun χ w hw => run_as _ rfl) ?_) | (refine fx_val (fun _ => rfl) rfl (fun χ w hw => run_fa _ _ _ rfl) ?_) | (refine fx_val (fun _ => rfl) rfl (fun χ w hw => run_ld _ _ rfl hw) ?_) | (refine fx_val (fun _ => rfl) rfl (fun χ w hw => run_lda _ _ rfl hw) ?_) | (refine fx_val (fun _ => rfl) rfl (fun χ w hw => run_ld0 _ _ rfl hw) ?_) | (refine fx_val (fun _ => rfl) rfl (fun χ w hw => run_lda0 _ _ rfl hw) ?_) | (refine fx_val (fun _ => rfl) rfl (fun χ w hw => run_ine _ _ _ _ rfl) ?_) | (refine fx_val (fun _ => rfl) rfl (fun χ w hw => run_aeq _ _ _ _ rfl) ?_) | (refine fx_val (fun _ => rfl) rfl (fun χ w hw => run_ane _ _ _ _ rfl) ?_) | (refine fx_val (fun _ => rfl) rfl (fun χ w hw => run_lenv _ _ rfl) ?_) | (refine fx_val (fun _ => rfl) rfl (fun χ w hw => run_idxv _ _ _ rfl) ?_) | (refine fx_val (fun _ => rfl) rfl (fun χ w hw => run_pk1 _ _ _ rfl) ?_) | (refine fx_val (fun _ => rfl) rfl (fun χ w hw => run_pk2 _ _ _ rfl) ?_) | (refine fx_val (fun _ => rfl) rfl (fun χ w hw => run_nse _ _ _ rfl) ?_) | (refine fx_val (fun _ => rfl) rfl (fun χ w hw => run_nsn _ _ _ rfl) ?_) | (refine fx_val (fun _ => rfl) rfl (fun χ w hw => run_bd _ _ rfl) ?_) | (refine fx_val (fun _ => rfl) rfl (fun χ w hw => run_ieq _ _ _ _ rfl) ?_) | (refine fx_val (fun _ => rfl) rfl (fun χ w hw => run_beq _ _ _ _ rfl) ?_) | (refine fx_val (fun _ => rfl) rfl (fun χ w hw => run_bne _ _ _ _ rfl) ?_) | (refine fx_val (fun _ => rfl) rfl (fun χ w hw => run_bnot _ _ rfl) ?_) | (refine fx_val (fun _ => rfl) rfl (fun χ w hw => run_ext _ _ rfl) ?_) | (refine fx_val (fun _ => rfl) rfl (fun χ w hw => run_ilit _ _ _ _ rfl) ?_) | (refine fx_val (fun _ => rfl) rfl (fun χ w hw => run_cvn _ _ _ rfl) ?_) | (refine fx_val (fun _ => rfl) rfl (fun χ w hw => run_remn _ _ _ _ rfl (by decide)) ?_) | (refine fx_val (fun _ => rfl) rfl (fun χ w hw => run_nc _ rfl) ?_) | (refine fx_val (fun _ => rfl) rfl (fun χ w hw => run_inlit _ _ _ _ rfl) ?_) | (refine fx_skip (fun _ => rfl) ?_))
  first | (refine fx_val (fun _ => rfl) rfl (fun χ w hw => run_remv _ _ _ _ rfl) ?_) | (refine fx_val (fun _ => rfl) rfl (fun χ w hw => run_cvn _ _ _ rfl) ?_) | (refine fx_val (fun _ => rfl) rfl (fun χ w hw => run_idxv _ _ _ rfl) ?_)
  first | (refine fx_val (fun _ => rfl) rfl (fun χ w hw => run_remv _ _ _ _ rfl) ?_) | (refine fx_val (fun _ => rfl) rfl (fun χ w hw => run_cvn _ _ _ rfl) ?_) | (refine fx_val (fun _ => rfl) rfl (fun χ w hw => run_lda _ _ rfl hw) ?_)
  refine fx_turn0 0 0 rfl rfl (by kernel_rfl) (by kernel_rfl) (by kernel_rfl) (fun _ => rfl) (fun x => x.1) ?_ ?_
  · intro χ X w _ hS
    exact stepX_al _ rfl (show St w0 bs w (X ++ _) from hS) (fun b w' _ hS' => ⟨(_, [_]), rfl, ⟨b, rfl⟩, hS'⟩)
  refine fx_turn0 0 1 rfl rfl (by kernel_rfl) (by kernel_rfl) (by kernel_rfl) (fun _ => rfl) (fun _ => undef) ?_ ?_
  · rintro χ X w ⟨⟨b, hb⟩, _⟩ hS
    have hS : St w0 bs w ((χ 11).2 ++ (X ++ _)) := hS
    rw [hb] at hS
    have hS : St w0 bs w (⟨b, #[.int .i64 0, .int .u32 0], 38, true⟩ :: (X ++ _)) := hS
    have hb1 : (χ 11).1 = .pointer (some ⟨b, 0, none⟩) := by rw [hb]
    exact stepX_stb _ _ _ rfl hS hb1 (fun w' hS' => ⟨(undef, [⟨b, #[.int .i64 rs, .int .u32 rg], 38, true⟩]), rfl, ⟨b, hb1, rfl⟩, hS'⟩)
  refine fx_end rfl ?_
  intro χ w hok hS
  obtain ⟨⟨b12, hb⟩, ⟨bo', hb1, hb2⟩, _⟩ := hok _ (.head _)
  rw [hb] at hb1
  obtain ⟨⟩ := hb1
  have hS : St w0 bs w (((χ 12).2 ++ []) ++ (⟨bt, #[.int .u8 a, .int .u8 i, .int .u8 c], 29, true⟩ :: moE bm ph M vi vg :: ⟨gb, blk [] slf l [], 38, true⟩ :: (E ++ (Ei ++ (Eg ++ (A1 ++ (A2 ++ H))))))) := hS
  rw [hb2, List.append_nil] at hS
  simp only [hb]
  simp only [List.cons_append, List.nil_append] at hS
  clear hok hb2 hb
  go_wp2_with (first | go_skip | go_skip | (refine wpList_is (.build _ _) rfl ?_; go_must (refine wpList_stp (by kernel_rfl) (stp_val (run_bd _ _ rfl) ?_))) | (refine wpList_is (.call { callee := .builtin .clear, args := #[_], argTypes := #[_] }) rfl ?_; go_must (refine wpList_stp (by kernel_rfl) (stp_cl _ _ rfl hS (by decide) ?_)); clear hS; intro w hS) | (refine wpList_is (.load _ _) rfl ?_; go_must (first | refine wpList_stp (by kernel_rfl) (stp_val (run_ld _ _ rfl hS) ?_) | refine wpList_stp (by kernel_rfl) (stp_val (run_lda _ _ rfl hS) ?_) | refine wpList_stp (by kernel_rfl) (stp_val (run_ld0 _ _ rfl hS) ?_) | refine wpList_stp (by kernel_rfl) (stp_val (run_lda0 _ _ rfl hS) ?_))) | (refine wpList_is (.store _ _ _) rfl ?_; go_must (first | refine wpList_stp (by kernel_rfl) (stp_st _ _ _ rfl hS ?_) | refine wpList_stp (by kernel_rfl) (stp_sta _ _ _ rfl hS ?_)); clear hS; intro w hS) | (refine wpList_is (.alloc _) rfl ?_; go_must (refine wpList_stp (by kernel_rfl) (stp_al _ rfl hS ?_)); clear hS; intro bN w hbN hS) | (refine wpList_is (.box _ _) rfl ?_; go_must (refine wpList_stp (by kernel_rfl) (stp_bx _ _ rfl hS ?_)); clear hS; intro bN w hbN hS) | (refine wpList_is (.binOp .eql _ _ (.const (.slice none _ _)) _) rfl ?_; refine wpList_stp (by kernel_rfl) (stp_val (run_nse _ _ _ rfl) ?_)) | (refine wpList_is (.binOp .neq _ _ (.const (.slice none _ _)) _) rfl ?_; refine wpList_stp (by kernel_rfl) (stp_val (run_nsn _ _ _ rfl) ?_)))
  have hS : St w0 bs w (⟨b12, #[.int .i64 rs, .int .u32 rg], 38, true⟩ :: ⟨bt, #[.int .u8 a, .int .u8 i, .int .u8 c], 29, true⟩ :: moE bm ph M vi vg :: ⟨gb, blk [] slf l [], 38, true⟩ :: (E ++ (Ei ++ (Eg ++ (A1 ++ (A2 ++ H)))))) := hS.pick
  refine region_itemsE [⟨(undef, []), [(11, fun _ x => ∃ b, x = (.pointer (some ⟨b, 0, none⟩), [⟨b, #[.int .i64 0, .int .u32 0], 38, true⟩])), (12, fun y x => ∃ b, y.1 = .pointer (some ⟨b, 0, none⟩) ∧ x.2 = [⟨b, #[.int .i64 xs, .int .u32 xg], 38, true⟩])]⟩]
    (⟨b12, #[.int .i64 rs, .int .u32 rg], 38, true⟩ :: ⟨bt, #[.int .u8 a, .int .u8 i, .int .u8 c], 29, true⟩ :: moE bm ph M vi vg :: ⟨gb, blk [] slf l [], 38, true⟩ :: (E ++ (Ei ++ (Eg ++ (A1 ++ (A2 ++ H)))))) (⟨b12, #[.int .i64 rs, .int .u32 rg], 38, true⟩ :: ⟨bt, #[.int .u8 a, .int .u8 i, .int .u8 c], 29, true⟩ :: moE bm ph M vi vg :: ⟨gb, blk [] slf l [], 38, true⟩ :: (E ++ (Ei ++ (Eg ++ (A1 ++ (A2 ++ H)))))) (by simp) hS (by kernel_rfl) (by kernel_rfl) ?_
  first | (refine fx_val (fun _ => rfl) rfl (fun χ w hw => run_remv _ _ _ _ rfl) ?_) | (refine fx_val (fun _ => rfl) rfl (fun χ w hw => run_cvn _ _ _ rfl) ?_) | (refine fx_val (fun _ => rfl) rfl (fun χ w hw => run_mv _ rfl) ?_)
  first | (refine fx_val (fun _ => rfl) rfl (fun χ w hw => run_remv _ _ _ _ rfl) ?_) | (refine fx_val (fun _ => rfl) rfl (fun χ w hw => run_cvn _ _ _ rfl) ?_) | (refine fx_val (fun _ => rfl) rfl (fun χ w hw => run_nc _ rfl) ?_)
  first | (refine fx_val (fun _ => rfl) rfl (fun χ w hw => run_remv _ _ _ _ rfl) ?_) | (refine fx_val (fun _ => rfl) rfl (fun χ w hw => run_cvn _ _ _ rfl) ?_) | (refine fx_val (fun _ => rfl) rfl (fun χ w hw => run_fa _ _ _ rfl) ?_)
  first | (refine fx_val (fun _ => rfl) rfl (fun χ w hw => run_remv _ _ _ _ rfl) ?_) | (refine fx_val (fun _ => rfl) rfl (fun χ w hw => run_cvn _ _ _ rfl) ?_) | (refine fx_val (fun _ => rfl) rfl (fun χ w hw => run_ld _ _ rfl hw) ?_)
  first | (refine fx_val (fun _ => rfl) rfl (fun χ w hw => run_remv _ _ _ _ rfl) ?_) | (refine fx_val (fun _ => rfl) rfl (fun χ w hw => run_cvn _ _ _ rfl) ?_) | (refine fx_val (fun _ => rfl) rfl (fun χ w hw => run_fa _ _ _ rfl) ?_)
  first | (refine fx_val (fun _ => rfl) rfl (fun χ w hw => run_remv _ _ _ _ rfl) ?_) | (refine fx_val (fun _ => rfl) rfl (fun χ w hw => run_cvn _ _ _ rfl) ?_) | (refine fx_val (fun _ => rfl) rfl (fun χ w hw => run_ld _ _ rfl hw) ?_)
  first | (refine fx_val (fun _ => rfl) rfl (fun χ w hw => run_remv _ _ _ _ rfl) ?_) | (refine fx_val (fun _ => rfl) rfl (fun χ w hw => run_cvn _ _ _ rfl) ?_) | (first | (refine fx_val (fun _ => rfl) rfl (fun χ w hw => run_mv _ rfl) ?_) | (refine fx_val (fun _ => rfl) rfl (fun χ w hw => run_as _ rfl) ?_) | (refine fx_val (fun _ => rfl) rfl (fun χ w hw => run_fa _ _ _ rfl) ?_) | (refine fx_val (fun _ => rfl) rfl (fun χ w hw => run_ld _ _ rfl hw) ?_) | (refine fx_val (fun _ => rfl) rfl (fun χ w hw => run_lda _ _ rfl hw) ?_) | (refine fx_val (fun _ => rfl) rfl (fun χ w hw => run_ld0 _ _ rfl hw) ?_) | (refine fx_val (fun _ => rfl) rfl (fun χ w hw => run_lda0 _ _ rfl hw) ?_) | (refine fx_val (fun _ => rfl) rfl (fun χ w hw => run_ine _ _ _ _ rfl) ?_) | (refine fx_val (fun _ => rfl) rfl (fun χ w hw => run_aeq _ _ _ _ rfl) ?_) | (refine fx_val (fun _ => rfl) rfl (fun χ w hw => run_ane _ _ _ _ rfl) ?_) | (refine fx_val (fun _ => rfl) rfl (fun χ w hw => run_lenv _ _ rfl) ?_) | (refine fx_val (fun _ => rfl) rfl (fun χ w hw => run_idxv _ _ _ rfl) ?_) | (refine fx_val (fun _ => rfl) rfl (fun χ w hw => run_pk1 _ _ _ rfl) ?_) | (refine fx_val (fun _ => rfl) rfl (fun χ w hw => run_pk2 _ _ _ rfl) ?_) | (refine fx_val (fun _ => rfl) rfl (fun χ w hw => run_nse _ _ _ rfl) ?_) | (refine fx_val (fun _ => rfl) rfl (fun χ w hw => run_nsn _ _ _ rfl) ?_) | (refine fx_val (fun _ => rfl) rfl (fun χ w hw => run_bd _ _ rfl) ?_) | (refine fx_val (fun _ => rfl) rfl (fun χ w hw => run_ieq _ _ _ _ rfl) ?_) | (refine fx_val (fun _ => rfl) rfl (fun χ w hw => run_beq _ _ _ _ rfl) ?_) | (refine fx_val (fun _ => rfl) rfl (fun χ w hw => run_bne _ _ _ _ rfl) ?_) | (refine fx_val (fun _ => rfl) rfl (fun χ w hw => run_bnot _ _ rfl) ?_) | (refine fx_val (fun _ => rfl) rfl (fun χ w hw => run_ext _ _ rfl) ?_) | (refine fx_val (fun _ => rfl) rfl (fun χ w hw => run_ilit _ _ _ _ rfl) ?_) | (refine fx_val (fun _ => rfl) rfl (fun χ w hw => run_cvn _ _ _ rfl) ?_) | (refine fx_val (fun _ => rfl) rfl (fun χ w hw => run_remn _ _ _ _ rfl (by decide)) ?_) | (refine fx_val (fun _ => rfl) rfl (fun χ w hw => run_nc _ rfl) ?_) | (refine fx_val (fun _ => rfl) rfl (fun χ w hw => run_inlit _ _ _ _ rfl) ?_) | (refine fx_skip (fun _ => rfl) ?_))
  first | (refine fx_val (fun _ => rfl) rfl (fun χ w hw => run_remv _ _ _ _ rfl) ?_) | (refine fx_val (fun _ => rfl) rfl (fun χ w hw => run_cvn _ _ _ rfl) ?_) | (refine fx_val (fun _ => rfl) rfl (fun χ w hw => run_mv _ rfl) ?_)
  first | (refine fx_val (fun _ => rfl) rfl (fun χ w hw => run_remv _ _ _ _ rfl) ?_) | (refine fx_val (fun _ => rfl) rfl (fun χ w hw => run_cvn _ _ _ rfl) ?_) | (first | (refine fx_val (fun _ => rfl) rfl (fun χ w hw => run_mv _ rfl) ?_) | (refine fx_val (fun _ => rfl) rfl (fun χ w hw => run_as _ rfl) ?_) | (refine fx_val (fun _ => rfl) rfl (fun χ w hw => run_fa _ _ _ rfl) ?_) | (refine fx_val (fun _ => rfl) rfl (fun χ w hw => run_ld _ _ rfl hw) ?_) | (refine fx_val (fun _ => rfl) rfl (fun χ w hw => run_lda _ _ rfl hw) ?_) | (refine fx_val (fun _ => rfl) rfl (fun χ w hw => run_ld0 _ _ rfl hw) ?_) | (refine fx_val (fun _ => rfl) rfl (fun χ w hw => run_lda0 _ _ rfl hw) ?_) | (refine fx_val (fun _ => rfl) rfl (fun χ w hw => run_ine _ _ _ _ rfl) ?_) | (refine fx_val (fun _ => rfl) rfl (fun χ w hw => run_aeq _ _ _ _ rfl) ?_) | (refine fx_val (fun _ => rfl) rfl (fun χ w hw => run_ane _ _ _ _ rfl) ?_) | (refine fx_val (fun _ => rfl) rfl (fun χ w hw => run_lenv _ _ rfl) ?_) | (refine fx_val (fun _ => rfl) rfl (fun χ w hw => run_idxv _ _ _ rfl) ?_) | (refine fx_val (fun _ => rfl) rfl (fun χ w hw => run_pk1 _ _ _ rfl) ?_) | (refine fx_val (fun _ => rfl) rfl (fun χ w hw => run_pk2 _ _ _ rfl) ?_) | (refine fx_val (fun _ => rfl) rfl (fun χ w hw => run_nse _ _ _ rfl) ?_) | (refine fx_val (fun _ => rfl) rfl (fun χ w hw => run_nsn _ _ _ rfl) ?_) | (refine fx_val (fun _ => rfl) rfl (fun χ w hw => run_bd _ _ rfl) ?_) | (refine fx_val (fun _ => rfl) rfl (fun χ w hw => run_ieq _ _ _ _ rfl) ?_) | (refine fx_val (fun _ => rfl) rfl (fun χ w hw => run_beq _ _ _ _ rfl) ?_) | (refine fx_val (fun _ => rfl) rfl (fun χ w hw => run_bne _ _ _ _ rfl) ?_) | (refine fx_val (fun _ => rfl) rfl (fun χ w hw => run_bnot _ _ rfl) ?_) | (refine fx_val (fun _ => rfl) rfl (fun χ w hw => run_ext _ _ rfl) ?_) | (refine fx_val (fun _ => rfl) rfl (fun χ w hw => run_ilit _ _ _ _ rfl) ?_) | (refine fx_val (fun _ => rfl) rfl (fun χ w hw => run_cvn _ _ _ rfl) ?_) | (refine fx_val (fun _ => rfl) rfl (fun χ w hw => run_remn _ _ _ _ rfl (by decide)) ?_) | (refine fx_val (fun _ => rfl) rfl (fun χ w hw => run_nc _ rfl) ?_) | (refine fx_val (fun _ => rfl) rfl (fun χ w hw => run_inlit _ _ _ _ rfl) ?_) | (refine fx_skip (fun _ => rfl) ?_))
  first | (refine fx_val (fun _ => rfl) rfl (fun χ w hw => run_remv _ _ _ _ rfl) ?_) | (refine fx_val (fun _ => rfl) rfl (fun χ w hw => run_cvn _ _ _ rfl) ?_) | (refine fx_val (fun _ => rfl) rfl (fun χ w hw => run_idxv _ _ _ rfl) ?_)
  first | (refine fx_val (fun _ => rfl) rfl (fun χ w hw => run_remv _ _ _ _ rfl) ?_) | (refine fx_val (fun _ => rfl) rfl (fun χ w hw => run_cvn _ _ _ rfl) ?_) | (refine fx_val (fun _ => rfl) rfl (fun χ w hw => run_lda _ _ rfl hw) ?_)
  refine fx_turn0 0 0 rfl rfl (by kernel_rfl) (by kernel_rfl) (by kernel_rfl) (fun _ => rfl) (fun x => x.1) ?_ ?_
  · intro χ X w _ hS
    exact stepX_al _ rfl (show St w0 bs w (X ++ _) from hS) (fun b w' _ hS' => ⟨(_, [_]), rfl, ⟨b, rfl⟩, hS'⟩)
  refine fx_turn0 0 1 rfl rfl (by kernel_rfl) (by kernel_rfl) (by kernel_rfl) (fun _ => rfl) (fun _ => undef) ?_ ?_
  · rintro χ X w ⟨⟨b, hb⟩, _⟩ hS
    have hS : St w0 bs w ((χ 11).2 ++ (X ++ _)) := hS
    rw [hb] at hS
    have hS : St w0 bs w (⟨b, #[.int .i64 0, .int .u32 0], 38, true⟩ :: (X ++ _)) := hS
    have hb1 : (χ 11).1 = .pointer (some ⟨b, 0, none⟩) := by rw [hb]
    exact stepX_stb _ _ _ rfl hS hb1 (fun w' hS' => ⟨(undef, [⟨b, #[.int .i64 xs, .int .u32 xg], 38, true⟩]), rfl, ⟨b, hb1, rfl⟩, hS'⟩)
  refine fx_end rfl ?_
  intro χ w hok hS
  obtain ⟨⟨b13, hb⟩, ⟨bo', hb1, hb2⟩, _⟩ := hok _ (.head _)
  rw [hb] at hb1
  obtain ⟨⟩ := hb1
  have hS : St w0 bs w (((χ 12).2 ++ []) ++ (⟨b12, #[.int .i64 rs, .int .u32 rg], 38, true⟩ :: ⟨bt, #[.int .u8 a, .int .u8 i, .int .u8 c], 29, true⟩ :: moE bm ph M vi vg :: ⟨gb, blk [] slf l [], 38, true⟩ :: (E ++ (Ei ++ (Eg ++ (A1 ++ (A2 ++ H))))))) := hS
  rw [hb2, List.append_nil] at hS
  simp only [hb]
  simp only [List.cons_append, List.nil_append] at hS
  clear hok hb2 hb
  go_wp2_with (first | go_skip | (refine wpList_is (.convert _ _ _) rfl ?_; refine wpList_stp (by kernel_rfl) (stp_val (run_cvn _ _ _ rfl) ?_)) | (refine wpList_is (.binOp .rem _ _ _ _) rfl ?_; refine wpList_stp (by kernel_rfl) (stp_val (run_remv _ _ _ _ rfl) ?_)) | go_skip | (refine wpList_is (.call { callee := .builtin .len, args := #[_], argTypes := #[_] }) rfl ?_; refine wpList_stp (by kernel_rfl) (stp_val (run_lenv _ _ rfl) ?_)) | (refine wpList_is (.slice _ _ none (some _) none) rfl ?_; refine wpList_stp (by kernel_rfl) (stp_val (run_prev _ _ _ rfl) ?_)) | (refine wpList_is (.indexAddr _ _ _) rfl ?_; refine wpList_stp (by kernel_rfl) (stp_val (run_idxv _ _ _ rfl) ?_)) | go_skip | (refine wpList_is (.build _ _) rfl ?_; go_must (refine wpList_stp (by kernel_rfl) (stp_val (run_bd _ _ rfl) ?_))) | (refine wpList_is (.call { callee := .builtin .clear, args := #[_], argTypes := #[_] }) rfl ?_; go_must (refine wpList_stp (by kernel_rfl) (stp_cl _ _ rfl hS (by decide) ?_)); clear hS; intro w hS) | (refine wpList_is (.load _ _) rfl ?_; go_must (first | refine wpList_stp (by kernel_rfl) (stp_val (run_ld _ _ rfl hS) ?_) | refine wpList_stp (by kernel_rfl) (stp_val (run_lda _ _ rfl hS) ?_) | refine wpList_stp (by kernel_rfl) (stp_val (run_ld0 _ _ rfl hS) ?_) | refine wpList_stp (by kernel_rfl) (stp_val (run_lda0 _ _ rfl hS) ?_))) | (refine wpList_is (.store _ _ _) rfl ?_; go_must (first | refine wpList_stp (by kernel_rfl) (stp_st _ _ _ rfl hS ?_) | refine wpList_stp (by kernel_rfl) (stp_sta _ _ _ rfl hS ?_)); clear hS; intro w hS) | (refine wpList_is (.alloc _) rfl ?_; go_must (refine wpList_stp (by kernel_rfl) (stp_al _ rfl hS ?_)); clear hS; intro bN w hbN hS) | (refine wpList_is (.box _ _) rfl ?_; go_must (refine wpList_stp (by kernel_rfl) (stp_bx _ _ rfl hS ?_)); clear hS; intro bN w hbN hS) | (refine wpList_is (.binOp .eql _ _ (.const (.slice none _ _)) _) rfl ?_; refine wpList_stp (by kernel_rfl) (stp_val (run_nse _ _ _ rfl) ?_)) | (refine wpList_is (.binOp .neq _ _ (.const (.slice none _ _)) _) rfl ?_; refine wpList_stp (by kernel_rfl) (stp_val (run_nsn _ _ _ rfl) ?_)))
  have hS : St w0 bs w (E ++ (⟨b13, #[.int .i64 xs, .int .u32 xg], 38, true⟩ :: ⟨b12, #[.int .i64 rs, .int .u32 rg], 38, true⟩ :: ⟨bt, #[.int .u8 a, .int .u8 i, .int .u8 c], 29, true⟩ :: moE bm ph M vi vg :: ⟨gb, blk [] slf l [], 38, true⟩ :: (Ei ++ (Eg ++ (A1 ++ (A2 ++ H)))))) := hS.pick
  refine region_itemsE [⟨(undef, E), [(7, fun _ x => HA ph (HL L) x.2)]⟩, ⟨(undef, []), [(11, fun _ x => ∃ b, x = (.pointer (some ⟨b, 0, none⟩), [⟨b, #[.int .i64 0, .int .u32 0], 38, true⟩])), (12, fun y x => ∃ b, y.1 = .pointer (some ⟨b, 0, none⟩) ∧ x.2 = [⟨b, #[.int .i64 0, .int .u32 0], 38, true⟩])]⟩]
    (⟨b13, #[.int .i64 xs, .int .u32 xg], 38, true⟩ :: ⟨b12, #[.int .i64 rs, .int .u32 rg], 38, true⟩ :: ⟨bt, #[.int .u8 a, .int .u8 i, .int .u8 c], 29, true⟩ :: moE bm ph M vi vg :: ⟨gb, blk [] slf l [], 38, true⟩ :: (Ei ++ (Eg ++ (A1 ++ (A2 ++ H))))) (E ++ (⟨b13, #[.int .i64 xs, .int .u32 xg], 38, true⟩ :: ⟨b12, #[.int .i64 rs, .int .u32 rg], 38, true⟩ :: ⟨bt, #[.int .u8 a, .int .u8 i, .int .u8 c], 29, true⟩ :: moE bm ph M vi vg :: ⟨gb, blk [] slf l [], 38, true⟩ :: (Ei ++ (Eg ++ (A1 ++ (A2 ++ H)))))) (by simp) hS (by kernel_rfl) (by kernel_rfl) ?_
  first | (refine fx_val (fun _ => rfl) rfl (fun χ w hw => run_remv _ _ _ _ rfl) ?_) | (refine fx_val (fun _ => rfl) rfl (fun χ w hw => run_cvn _ _ _ rfl) ?_) | (refine fx_val (fun _ => rfl) rfl (fun χ w hw => run_mv _ rfl) ?_)
  first | (refine fx_val (fun _ => rfl) rfl (fun χ w hw => run_remv _ _ _ _ rfl) ?_) | (refine fx_val (fun _ => rfl) rfl (fun χ w hw => run_cvn _ _ _ rfl) ?_) | (refine fx_val (fun _ => rfl) rfl (fun χ w hw => run_nc _ rfl) ?_)
  first | (refine fx_val (fun _ => rfl) rfl (fun χ w hw => run_remv _ _ _ _ rfl) ?_) | (refine fx_val (fun _ => rfl) rfl (fun χ w hw => run_cvn _ _ _ rfl) ?_) | (refine fx_val (fun _ => rfl) rfl (fun χ w hw => run_fa _ _ _ rfl) ?_)
  first | (refine fx_val (fun _ => rfl) rfl (fun χ w hw => run_remv _ _ _ _ rfl) ?_) | (refine fx_val (fun _ => rfl) rfl (fun χ w hw => run_cvn _ _ _ rfl) ?_) | (refine fx_val (fun _ => rfl) rfl (fun χ w hw => run_ld _ _ rfl hw) ?_)
  first | (refine fx_val (fun _ => rfl) rfl (fun χ w hw => run_remv _ _ _ _ rfl) ?_) | (refine fx_val (fun _ => rfl) rfl (fun χ w hw => run_cvn _ _ _ rfl) ?_) | (refine fx_val (fun _ => rfl) rfl (fun χ w hw => run_lda _ _ rfl hw) ?_)
  first | (refine fx_val (fun _ => rfl) rfl (fun χ w hw => run_remv _ _ _ _ rfl) ?_) | (refine fx_val (fun _ => rfl) rfl (fun χ w hw => run_cvn _ _ _ rfl) ?_) | (refine fx_val (fun _ => rfl) rfl (fun χ w hw => run_mv _ rfl) ?_)
  first | (refine fx_val (fun _ => rfl) rfl (fun χ w hw => run_remv _ _ _ _ rfl) ?_) | (refine fx_val (fun _ => rfl) rfl (fun χ w hw => run_cvn _ _ _ rfl) ?_) | (refine fx_val (fun _ => rfl) rfl (fun χ w hw => run_lda _ _ rfl hw) ?_)
  refine fx_turn 0 0 rfl rfl (by kernel_rfl) (by kernel_rfl) (by kernel_rfl) 22 [_, _, _, _] _ rfl (fun _ => rfl) (enters _ (by kernel_rfl)) (fun _ => .tuple #[.agg #[.int .i64 0, .int .u32 0], .int .i64 3]) ?_ ?_
  · intro χ X w _ hS
    exact hp_store (show St w0 bs w (E ++ (X ++ _)) from hS) hT rs rg c4 xs xg hxg _ (0, 0) 3 h1'.out h2'.out h3'.out (fun E' w' hT' hS' => ⟨(undef, E'), rfl, hT', show St w0 bs w' (E' ++ (X ++ _)) from hS'.pick⟩)
  first | (refine fx_val (fun _ => rfl) rfl (fun χ w hw => run_remv _ _ _ _ rfl) ?_) | (refine fx_val (fun _ => rfl) rfl (fun χ w hw => run_cvn _ _ _ rfl) ?_) | (refine fx_val (fun _ => rfl) rfl (fun χ w hw => run_mv _ rfl) ?_)
  first | (refine fx_val (fun _ => rfl) rfl (fun χ w hw => run_remv _ _ _ _ rfl) ?_) | (refine fx_val (fun _ => rfl) rfl (fun χ w hw => run_cvn _ _ _ rfl) ?_) | (refine fx_val (fun _ => rfl) rfl (fun χ w hw => run_ext _ _ rfl) ?_)
  first | (refine fx_val (fun _ => rfl) rfl (fun χ w hw => run_remv _ _ _ _ rfl) ?_) | (refine fx_val (fun _ => rfl) rfl (fun χ w hw => run_cvn _ _ _ rfl) ?_) | (refine fx_val (fun _ => rfl) rfl (fun χ w hw => run_ext _ _ rfl) ?_)
  refine fx_turn0 1 0 rfl rfl (by kernel_rfl) (by kernel_rfl) (by kernel_rfl) (fun _ => rfl) (fun x => x.1) ?_ ?_
  · intro χ X w _ hS
    exact stepX_al _ rfl (show St w0 bs w (X ++ _) from hS) (fun b w' _ hS' => ⟨(_, [_]), rfl, ⟨b, rfl⟩, hS'⟩)
  refine fx_turn0 1 1 rfl rfl (by kernel_rfl) (by kernel_rfl) (by kernel_rfl) (fun _ => rfl) (fun _ => undef) ?_ ?_
  · rintro χ X w ⟨⟨b, hb⟩, _⟩ hS
    have hS : St w0 bs w ((χ 11).2 ++ (X ++ _)) := hS
    rw [hb] at hS
    have hS : St w0 bs w (⟨b, #[.int .i64 0, .int .u32 0], 38, true⟩ :: (X ++ _)) := hS
    have hb1 : (χ 11).1 = .pointer (some ⟨b, 0, none⟩) := by rw [hb]
    exact stepX_stb _ _ _ rfl hS hb1 (fun w' hS' => ⟨(undef, [⟨b, #[.int .i64 0, .int .u32 0], 38, true⟩]), rfl, ⟨b, hb1, rfl⟩, hS'⟩)
  first | (refine fx_val (fun _ => rfl) rfl (fun χ w hw => run_remv _ _ _ _ rfl) ?_) | (refine fx_val (fun _ => rfl) rfl (fun χ w hw => run_cvn _ _ _ rfl) ?_) | (refine fx_val (fun _ => rfl) rfl (fun χ w hw => run_as _ rfl) ?_)
  refine fx_end rfl ?_
  intro χ w hok hS
  obtain ⟨hT2, _⟩ := hok _ (.head _)
  obtain ⟨⟨b15, hb⟩, ⟨bo', hb1, hb2⟩, _⟩ := hok _ (.tail _ (.head _))
  rw [hb] at hb1
  obtain ⟨⟩ := hb1
  have hS : St w0 bs w (((χ 7).2 ++ ((χ 12).2 ++ [])) ++ (⟨b13, #[.int .i64 xs, .int .u32 xg], 38, true⟩ :: ⟨b12, #[.int .i64 rs, .int .u32 rg], 38, true⟩ :: ⟨bt, #[.int .u8 a, .int .u8 i, .int .u8 c], 29, true⟩ :: moE bm ph M vi vg :: ⟨gb, blk [] slf l [], 38, true⟩ :: (Ei ++ (Eg ++ (A1 ++ (A2 ++ H)))))) := hS
  rw [hb2, List.append_nil, List.append_assoc] at hS
  have hT2 : HA ph (HL L) (χ 7).2 := hT2
  generalize (χ 7).2 = E' at hS hT2
  simp only [hb]
  simp only [List.cons_append, List.nil_append] at hS
  clear hok hb2 hb
  go_wp2_with (first | go_skip | (refine region_quiet hS (by kernel_rfl) (by kernel_rfl) (fun hne => ?_); (repeat (first | go_big_quiet_skip | (go_big_quiet_want; first | (refine quiet_is (.lookup _ _ _ _) rfl ?_; refine quiet_at sw_st (fun w hS => run_look _ _ _ rfl (hlk _ _ hS)) ?_; go_big_quiet_on) | (refine quiet_is (.load _ _) rfl ?_; go_must (first | refine quiet_at sw_st (fun w hS => run_ld _ _ rfl hS) ?_ | refine quiet_at sw_st (fun w hS => run_lda _ _ rfl hS) ?_ | refine quiet_at sw_st (fun w hS => run_ld0 _ _ rfl hS) ?_ | refine quiet_at sw_st (fun w hS => run_lda0 _ _ rfl hS) ?_); go_big_quiet_on) | (refine quiet_is (.binOp .eql _ _ (.const (.slice none _ _)) _) rfl ?_; refine quiet_val (fun w _ => run_nse _ _ _ rfl) ?_; go_big_quiet_on) | (refine quiet_is (.binOp .neq _ _ (.const (.slice none _ _)) _) rfl ?_; refine quiet_val (fun w _ => run_nsn _ _ _ rfl) ?_; go_big_quiet_on) | (refine quiet_is (.call { callee := .builtin .len, args := #[_], argTypes := #[_] }) rfl ?_; refine quiet_val (fun w _ => run_lenv _ _ rfl) ?_; go_big_quiet_on) | (refine quiet_is (.indexAddr _ _ _) rfl ?_; refine quiet_val (fun w _ => run_idxv _ _ _ rfl) ?_; go_big_quiet_on) | (refine quiet_is (.binOp .eql _ _ _ _) rfl ?_; refine quiet_val (fun w _ => run_aeq _ _ _ _ rfl) ?_; go_big_quiet_on) | (refine quiet_is (.binOp .neq _ _ _ _) rfl ?_; refine quiet_val (fun w _ => run_ane _ _ _ _ rfl) ?_; go_big_quiet_on) | (go_big_quiet_op; go_big_quiet_on)))); refine wpQuiet_nil ?_; clear hS hne; intro w hS) | (refine wpList_is (.binOp .eql _ _ _ _) rfl ?_; refine wpList_stp (by kernel_rfl) (stp_val (run_aeq _ _ _ _ rfl) ?_)) | (refine wpList_is (.binOp .neq _ _ _ _) rfl ?_; refine wpList_stp (by kernel_rfl) (stp_val (run_ane _ _ _ _ rfl) ?_)) | go_skip | (refine wpList_is (.build _ _) rfl ?_; go_must (refine wpList_stp (by kernel_rfl) (stp_val (run_bd _ _ rfl) ?_))) | (refine wpList_is (.call { callee := .builtin .clear, args := #[_], argTypes := #[_] }) rfl ?_; go_must (refine wpList_stp (by kernel_rfl) (stp_cl _ _ rfl hS (by decide) ?_)); clear hS; intro w hS) | (refine wpList_is (.load _ _) rfl ?_; go_must (first | refine wpList_stp (by kernel_rfl) (stp_val (run_ld _ _ rfl hS) ?_) | refine wpList_stp (by kernel_rfl) (stp_val (run_lda _ _ rfl hS) ?_) | refine wpList_stp (by kernel_rfl) (stp_val (run_ld0 _ _ rfl hS) ?_) | refine wpList_stp (by kernel_rfl) (stp_val (run_lda0 _ _ rfl hS) ?_))) | (refine wpList_is (.store _ _ _) rfl ?_; go_must (first | refine wpList_stp (by kernel_rfl) (stp_st _ _ _ rfl hS ?_) | refine wpList_stp (by kernel_rfl) (stp_sta _ _ _ rfl hS ?_)); clear hS; intro w hS) | (refine wpList_is (.alloc _) rfl ?_; go_must (refine wpList_stp (by kernel_rfl) (stp_al _ rfl hS ?_)); clear hS; intro bN w hbN hS) | (refine wpList_is (.box _ _) rfl ?_; go_must (refine wpList_stp (by kernel_rfl) (stp_bx _ _ rfl hS ?_)); clear hS; intro bN w hbN hS) | (refine wpList_is (.binOp .eql _ _ (.const (.slice none _ _)) _) rfl ?_; refine wpList_stp (by kernel_rfl) (stp_val (run_nse _ _ _ rfl) ?_)) | (refine wpList_is (.binOp .neq _ _ (.const (.slice none _ _)) _) rfl ?_; refine wpList_stp (by kernel_rfl) (stp_val (run_nsn _ _ _ rfl) ?_)))
  refine hR _ ⟨w0, bs, M, ph, vi, vg, L, ins, gone, ms, E', Ei, Eg, hB, ?_, hT2, hvi, hvg, hMo.more⟩
  rw [me_split hj'.out, hA1'.out, hA2'.out, meE_blk]
  simp only [List.append_assoc, List.cons_append]
  exact hS.pick

set_option maxHeartbeats 2000000 in
set_option maxRecDepth 100000 in
theorem turn_out7 {W : World} {bm n : Nat} {f : Int} {k : Nat} {H : List Ent} (hk : k ≤ 400) (hMA : MA W bm n f k H w) (a i c : Nat) (ha : a ≤ 255) (hi : i ≤ 255) (hc : c ≤ 255) (h4 : a % 4 = 3) (h7 : c % 8 = 7) (hst : ∀ w', MA W bm n f (k + 1) H w' → Ret R (.bool true) w')
    {L : List Hs} {ins gone : List (Int × Int)} {ms : List Me} {w0 : World} {bs : List Nat} {M : Nat} {ph : Option Addr} {vi vg : Value} {E Ei Eg : List Ent} (hB : Base W w0 bs M (ms.map meV)) (hS : St w0 bs w (moE bm ph M vi vg :: (E ++ (Ei ++ (Eg ++ (ms.map meE ++ H))))))
    (hT : HA ph (HL L) E) (hvi : RS vi ins Ei) (hvg : RS vg gone Eg) (hMo : Mo n f k L ins gone ms) {m : Nat} (hm : ins.length = m) (hm0 : 0 < m) {rs rg : Int} (hr : ins.getD (i % m) (0, 0) = (rs, rg)) {j : Nat} {gb : Nat} {l : List (Int × Int)}
    (hj : ms[j]? = some ((rs, rg), gb, l)) (hob : ObIs L (rs, rg) l) (hll : l.length ≤ c % 4) : Calls Try.prog 13 #[.pointer (some ⟨bm, 0, none⟩), .agg #[.int .u8 a, .int .u8 i, .int .u8 c]] w R := by
  have hR := hst
  clear hst hMA
  have hone := hvi.one
  have hone2 := hvg.one
  have hm' := Lib.hid hm
  have hln : LenV Try.prog 32 vi m := hvi.len hm
  have hl4 := (hMo.fd4 _ (List.mem_of_getElem? hj)).1
  simp only at hl4
  have ra : RemIs (a : Int) 4 3 := ⟨by rw [Int.tmod_eq_emod_of_nonneg (by omega)]; omega, by decide⟩
  obtain ⟨qi, hqi⟩ : ∃ q, i % m = q := ⟨_, rfl⟩
  obtain ⟨qk, hqk⟩ : ∃ q, c % m = q := ⟨_, rfl⟩
  obtain ⟨c8, hc8⟩ : ∃ q, c % 8 = q := ⟨_, rfl⟩
  obtain ⟨c4, hc4⟩ : ∃ q, c % 4 = q := ⟨_, rfl⟩
  rw [hqi] at hr
  rw [hc8] at h7
  rw [hc4] at hll
  have hqim : qi < m := by rw [← hqi]; exact Nat.mod_lt _ hm0
  have hqkm : qk < m := by rw [← hqk]; exact Nat.mod_lt _ hm0
  have r1 : RemIs (i : Int) (m : Int) (qi : Int) := ⟨by rw [Int.tmod_eq_emod_of_nonneg (by omega)]; omega, by omega⟩
  have r2 : RemIs (c : Int) (m : Int) (qk : Int) := ⟨by rw [Int.tmod_eq_emod_of_nonneg (by omega)]; omega, by omega⟩
  have r3 : RemIs (c : Int) 8 (c8 : Int) := ⟨by rw [Int.tmod_eq_emod_of_nonneg (by omega)]; omega, by decide⟩
  have r4 : RemIs (c : Int) 4 (c4 : Int) := ⟨by rw [Int.tmod_eq_emod_of_nonneg (by omega)]; omega, by decide⟩
  have si : Small (i : Int) := ⟨by omega, by omega⟩
  have sc : Small (c : Int) := ⟨by omega, by omega⟩
  have d1 : ((m : Int) == 0) = false := by simp; omega
  have d1' : decide ((m : Int) = 0) = false := decide_eq_false (by omega)
  have d1'' : decide (m = 0) = false := decide_eq_false (by omega)
  have d7 : ((c8 : Int) == 7) = true := by simp; omega
  have d7' : decide ((c8 : Int) = 7) = true := decide_eq_true (by omega)
  have d7'' : decide (c8 = 7) = true := decide_eq_true (by omega)
  obtain ⟨⟨xs, xg⟩, hx⟩ : ∃ x, ins.getD qk (0, 0) = x := ⟨_, rfl⟩
  have hqil : qi < ins.length := by omega
  have hqkl : qk < ins.length := by omega
  obtain ⟨gi, spi, ii, hHi, hci⟩ := hvi.at hqil hr
  obtain ⟨gk, spk, ik, hHk, hck⟩ := hvi.at hqkl hx
  have ii := ii qi rfl
  have ik := ik qk rfl
  simp only at hci hck
  have hrm : (rs, rg) ∈ ins := by rw [← hr, List.getD_eq_getElem?_getD, List.getElem?_eq_getElem hqil]; exact List.getElem_mem hqil
  have hxm : (xs, xg) ∈ ins := by rw [← hx, List.getD_eq_getElem?_getD, List.getElem?_eq_getElem hqkl]; exact List.getElem_mem hqkl
  have hxg : 0 ≤ xg ∧ xg ≤ 4294967295 := by
    obtain ⟨_, _, _, _, _, h5, h6⟩ := hMo.rg hxm
    simp only at h5 h6; omega
  obtain ⟨h1, h2, h3⟩ := hMo.out hob c4 hll (0, 0)
  have q5 := refE (refB_self 0 0)
  have dl : decide ((l.length : Int) ≤ (c4 : Int)) = true := decide_eq_true (by omega)
  have dl' : decide (l.length ≤ c4) = true := decide_eq_true (by omega)
  have hlk : ∀ w H, St w0 bs w H → LookIs Try.prog w 31 M #[.int .i64 rs, .int .u32 rg] false (.slice (some ⟨gb, 0, none⟩) l.length l.length) := fun w H hS => look_me (hB.now hS) hMo.ks hj rfl false
  have hlv := lenV_lit gb l.length
  obtain ⟨A1, hA1⟩ : ∃ A1, (ms.take j).map meE = A1 := ⟨_, rfl⟩
  obtain ⟨A2, hA2⟩ : ∃ A2, (ms.drop (j + 1)).map meE = A2 := ⟨_, rfl⟩
  rw [me_split hj, hA1, hA2, meE_blk] at hS
  simp only [List.append_assoc, List.cons_append] at hS
  have hA1' := Lib.hid hA1
  have hA2' := Lib.hid hA2
  have h1' := Lib.hid h1
  have h2' := Lib.hid h2
  have h3' := Lib.hid h3
  have hj' := Lib.hid hj
  clear h1 h2 h3 hr hx hqi hqk hc8 hc4 hA1 hA2 hj hm h4
  go_enter Try.func13, Try.ntmps13
  go_wp2_with (first | go_skip | (refine wpList_is (.box 29 _) rfl ?_; go_must (refine wpList_stp (by kernel_rfl) (stp_bx _ _ rfl hS ?_)); clear hS; intro bt w _ hS) | (refine wpList_is (.binOp .rem _ _ _ _) rfl ?_; refine wpList_stp (by kernel_rfl) (stp_val (run_remv _ _ _ _ rfl) ?_)) | go_skip | (refine wpList_is (.call { callee := .builtin .len, args := #[_], argTypes := #[_] }) rfl ?_; refine wpList_stp (by kernel_rfl) (stp_val (run_lenv _ _ rfl) ?_)) | (refine wpList_is (.slice _ _ none (some _) none) rfl ?_; refine wpList_stp (by kernel_rfl) (stp_val (run_prev _ _ _ rfl) ?_)) | (refine wpList_is (.indexAddr _ _ _) rfl ?_; refine wpList_stp (by kernel_rfl) (stp_val (run_idxv _ _ _ rfl) ?_)) | go_skip | (refine wpList_is (.build _ _) rfl ?_; go_must (refine wpList_stp (by kernel_rfl) (stp_val (run_bd _ _ rfl) ?_))) | (refine wpList_is (.call { callee := .builtin .clear, args := #[_], argTypes := #[_] }) rfl ?_; go_must (refine wpList_stp (by kernel_rfl) (stp_cl _ _ rfl hS (by decide) ?_)); clear hS; intro w hS) | (refine wpList_is (.load _ _) rfl ?_; go_must (first | refine wpList_stp (by kernel_rfl) (stp_val (run_ld _ _ rfl hS) ?_) | refine wpList_stp (by kernel_rfl) (stp_val (run_lda _ _ rfl hS) ?_) | refine wpList_stp (by kernel_rfl) (stp_val (run_ld0 _ _ rfl hS) ?_) | refine wpList_stp (by kernel_rfl) (stp_val (run_lda0 _ _ rfl hS) ?_))) | (refine wpList_is (.store _ _ _) rfl ?_; go_must (first | refine wpList_stp (by kernel_rfl) (stp_st _ _ _ rfl hS ?_) | refine wpList_stp (by kernel_rfl) (stp_sta _ _ _ rfl hS ?_)); clear hS; intro w hS) | (refine wpList_is (.alloc _) rfl ?_; go_must (refine wpList_stp (by kernel_rfl) (stp_al _ rfl hS ?_)); clear hS; intro bN w hbN hS) | (refine wpList_is (.box _ _) rfl ?_; go_must (refine wpList_stp (by kernel_rfl) (stp_bx _ _ rfl hS ?_)); clear hS; intro bN w hbN hS) | (refine wpList_is (.binOp .eql _ _ (.const (.slice none _ _)) _) rfl ?_; refine wpList_stp (by kernel_rfl) (stp_val (run_nse _ _ _ rfl) ?_)) | (refine wpList_is (.binOp .neq _ _ (.const (.slice none _ _)) _) rfl ?_; refine wpList_stp (by kernel_rfl) (stp_val (run_nsn _ _ _ rfl) ?_)))
  have hS : St w0 bs w (⟨bt, #[.int .u8 a, .int .u8 i, .int .u8 c], 29, true⟩ :: moE bm ph M vi vg :: ⟨gb, blk [] slf l [], 38, true⟩ :: (E ++ (Ei ++ (Eg ++ (A1 ++ (A2 ++ H)))))) := hS.pick
  refine region_itemsE [⟨(undef, []), [(11, fun _ x => ∃ b, x = (.pointer (some ⟨b, 0, none⟩), [⟨b, #[.int .i64 0, .int .u32 0], 38, true⟩])), (12, fun y x => ∃ b, y.1 = .pointer (some ⟨b, 0, none⟩) ∧ x.2 = [⟨b, #[.int .i64 rs, .int .u32 rg], 38, true⟩])]⟩]
    (⟨bt, #[.int .u8 a, .int .u8 i, .int .u8 c], 29, true⟩ :: moE bm ph M vi vg :: ⟨gb, blk [] slf l [], 38, true⟩ :: (E ++ (Ei ++ (Eg ++ (A1 ++ (A2 ++ H)))))) (⟨bt, #[.int .u8 a, .int .u8 i, .int .u8 c], 29, true⟩ :: moE bm ph M vi vg :: ⟨gb, blk [] slf l [], 38, true⟩ :: (E ++ (Ei ++ (Eg ++ (A1 ++ (A2 ++ H)))))) (by simp) hS (by kernel_rfl) (by kernel_rfl) ?_
  first | (refine fx_val (fun _ => rfl) rfl (fun χ w hw => run_remv _ _ _ _ rfl) ?_) | (refine fx_val (fun _ => rfl) rfl (fun χ w hw => run_cvn _ _ _ rfl) ?_) | (refine fx_val (fun _ => rfl) rfl (fun χ w hw => run_mv _ rfl) ?_)
  first | (refine fx_val (fun _ => rfl) rfl (fun χ w hw => run_remv _ _ _ _ rfl) ?_) | (refine fx_val (fun _ => rfl) rfl (fun χ w hw => run_cvn _ _ _ rfl) ?_) | (refine fx_val (fun _ => rfl) rfl (fun χ w hw => run_nc _ rfl) ?_)
  first | (refine fx_val (fun _ => rfl) rfl (fun χ w hw => run_remv _ _ _ _ rfl) ?_) | (refine fx_val (fun _ => rfl) rfl (fun χ w hw => run_cvn _ _ _ rfl) ?_) | (refine fx_val (fun _ => rfl) rfl (fun χ w hw => run_fa _ _ _ rfl) ?_)
  first | (refine fx_val (fun _ => rfl) rfl (fun χ w hw => run_remv _ _ _ _ rfl) ?_) | (refine fx_val (fun _ => rfl) rfl (fun χ w hw => run_cvn _ _ _ rfl) ?_) | (refine fx_val (fun _ => rfl) rfl (fun χ w hw => run_ld _ _ rfl hw) ?_)
  first | (refine fx_val (fun _ => rfl) rfl (fun χ w hw => run_remv _ _ _ _ rfl) ?_) | (refine fx_val (fun _ => rfl) rfl (fun χ w hw => run_cvn _ _ _ rfl) ?_) | (refine fx_val (fun _ => rfl) rfl (fun χ w hw => run_fa _ _ _ rfl) ?_)
  first | (refine fx_val (fun _ => rfl) rfl (fun χ w hw => run_remv _ _ _ _ rfl) ?_) | (refine fx_val (fun _ => rfl) rfl (fun χ w hw => run_cvn _ _ _ rfl) ?_) | (refine fx_val (fun _ => rfl) rfl (fun χ w hw => run_ld _ _ rfl hw) ?_)
  first | (refine fx_val (fun _ => rfl) rfl (fun χ w hw => run_remv _ _ _ _ rfl) ?_) | (refine fx_val (fun _ => rfl) rfl (fun χ w hw => run_cvn _ _ _ rfl) ?_) | (first | (refine fx_val (fun _ => rfl) rfl (fun χ w hw => run_mv _ rfl) ?_) | (refine fx_val (fun _ => rfl) rfl (fun χ w hw => run_as _ rfl) ?_) | (refine fx_val (fun _ => rfl) rfl (fun χ w hw => run_fa _ _ _ rfl) ?_) | (refine fx_val (fun _ => rfl) rfl (fun χ w hw => run_ld _ _ rfl hw) ?_) | (refine fx_val (fun _ => rfl) rfl (fun χ w hw => run_lda _ _ rfl hw) ?_) | (refine fx_val (fun _ => rfl) rfl (fun χ w hw => run_ld0 _ _ rfl hw) ?_) | (refine fx_val (fun _ => rfl) rfl (fun χ w hw => run_lda0 _ _ rfl hw) ?_) | (refine fx_val (fun _ => rfl) rfl (fun χ w hw => run_ine _ _ _ _ rfl) ?_) | (refine fx_val (fun _ => rfl) rfl (fun χ w hw => run_aeq _ _ _ _ rfl) ?_) | (refine fx_val (fun _ => rfl) rfl (fun χ w hw => run_ane _ _ _ _ rfl) ?_) | (refine fx_val (fun _ => rfl) rfl (fun χ w hw => run_lenv _ _ rfl) ?_) | (refine fx_val (fun _ => rfl) rfl (fun χ w hw => run_idxv _ _ _ rfl) ?_) | (refine fx_val (fun _ => rfl) rfl (fun χ w hw => run_pk1 _ _ _ rfl) ?_) | (refine fx_val (fun _ => rfl) rfl (fun χ w hw => run_pk2 _ _ _ rfl) ?_) | (refine fx_val (fun _ => rfl) rfl (fun χ w hw => run_nse _ _ _ rfl) ?_) | (refine fx_val (fun _ => rfl) rfl (fun χ w hw => run_nsn _ _ _ rfl) ?_) | (refine fx_val (fun _ => rfl) rfl (fun χ w hw => run_bd _ _ rfl) ?_) | (refine fx_val (fun _ => rfl) rfl (fun χ w hw => run_ieq _ _ _ _ rfl) ?_) | (refine fx_val (fun _ => rfl) rfl (fun χ w hw => run_beq _ _ _ _ rfl) ?_) | (refine fx_val (fun _ => rfl) rfl (fun χ w hw => run_bne _ _ _ _ rfl) ?_) | (refine fx_val (fun _ => rfl) rfl (fun χ w hw => run_bnot _ _ rfl) ?_) | (refine fx_val (fun _ => rfl) rfl (fun χ w hw => run_ext _ _ rfl) ?_) | (refine fx_val (fun _ => rfl) rfl (fun χ w hw => run_ilit _ _ _ _ rfl) ?_) | (refine fx_val (fun _ => rfl) rfl (fun χ w hw => run_cvn _ _ _ rfl) ?_) | (refine fx_val (fun _ => rfl) rfl (fun χ w hw => run_remn _ _ _ _ rfl (by decide)) ?_) | (refine fx_val (fun _ => rfl) rfl (fun χ w hw => run_nc _ rfl) ?_) | (refine fx_val (fun _ => rfl) rfl (fun χ w hw => run_inlit _ _ _ _ rfl) ?_) | (refine fx_skip (fun _ => rfl) ?_))
  first | (refine fx_val (fun _ => rfl) rfl (fun χ w hw => run_remv _ _ _ _ rfl) ?_) | (refine fx_val (fun _ => rfl) rfl (fun χ w hw => run_cvn _ _ _ rfl) ?_) | (refine fx_val (fun _ => rfl) rfl (fun χ w hw => run_mv _ rfl) ?_)
  first | (refine fx_val (fun _ => rfl) rfl (fun χ w hw => run_remv _ _ _ _ rfl) ?_) | (refine fx_val (fun _ => rfl) rfl (fun χ w hw => run_cvn _ _ _ rfl) ?_) | (first | (refine fx_val (fun _ => rfl) rfl (fun χ w hw => run_mv _ rfl) ?_) | (refine fx_val (fun _ => rfl) rfl (fun χ w hw => run_as _ rfl) ?_) | (refine fx_val (fun _ => rfl) rfl (fun χ w hw => run_fa _ _ _ rfl) ?_) | (refine fx_val (fun _ => rfl) rfl (fun χ w hw => run_ld _ _ rfl hw) ?_) | (refine fx_val (fun _ => rfl) rfl (fun χ w hw => run_lda _ _ rfl hw) ?_) | (refine fx_val (fun _ => rfl) rfl (fun χ w hw => run_ld0 _ _ rfl hw) ?_) | (refine fx_val (fun _ => rfl) rfl (fun χ w hw => run_lda0 _ _ rfl hw) ?_) | (refine fx_val (fun _ => rfl) rfl (fun χ w hw => run_ine _ _ _ _ rfl) ?_) | (refine fx_val (fun _ => rfl) rfl (fun χ w hw => run_aeq _ _ _ _ rfl) ?_) | (refine fx_val (fun _ => rfl) rfl (fun χ w hw => run_ane _ _ _ _ rfl) ?_) | (refine fx_val (fun _ => rfl) rfl (fun χ w hw => run_lenv _ _ rfl) ?_) | (refine fx_val (fun _ => rfl) rfl (fun χ w hw => run_idxv _ _ _ rfl) ?_) | (refine fx_val (fun _ => rfl) rfl (fun χ w hw => run_pk1 _ _ _ rfl) ?_) | (refine fx_val (fun _ => rfl) rfl (fun χ w hw => run_pk2 _ _ _ rfl) ?_) | (refine fx_val (fun _ => rfl) rfl (fun χ w hw => run_nse _ _ _ rfl) ?_) | (refine fx_val (fun _ => rfl) rfl (fun χ w hw => run_nsn _ _ _ rfl) ?_) | (refine fx_val (fun _ => rfl) rfl (fun χ w hw => run_bd _ _ rfl) ?_) | (refine fx_val (fun _ => rfl) rfl (fun χ w hw => run_ieq _ _ _ _ rfl) ?_) | (refine fx_val (fun _ => rfl) rfl (fun χ w hw => run_beq _ _ _ _ rfl) ?_) | (refine fx_val (fun _ => rfl) rfl (fun χ w hw => run_bne _ _ _ _ rfl) ?_) | (refine fx_val (fun _ => rfl) rfl (fun χ w hw => run_bnot _ _ rfl) ?_) | (refine fx_val (fun _ => rfl) rfl (fun χ w hw => run_ext _ _ rfl) ?_) | (refine fx_val (fun _ => rfl) rfl (fun χ w hw => run_ilit _ _ _ _ rfl) ?_) | (refine fx_val (fun _ => rfl) rfl (fun χ w hw => run_cvn _ _ _ rfl) ?_) | (refine fx_val (fun _ => rfl) rfl (fun χ w hw => run_remn _ _ _ _ rfl (by decide)) ?_) | (refine fx_val (fun _ => rfl) rfl (fun χ w hw => run_nc _ rfl) ?_) | (refine fx_val (fun _ => rfl) rfl (fun χ w hw => run_inlit _ _ _ _ rfl) ?_) | (refine fx_skip (fun _ => rfl) ?_))
  first | (refine fx_val (fun _ => rfl) rfl (fun χ w hw => run_remv _ _ _ _ rfl) ?_) | (refine fx_val (fun _ => rfl) rfl (fun χ w hw => run_cvn _ _ _ rfl) ?_) | (refine fx_val (fun _ => rfl) rfl (fun χ w hw => run_idxv _ _ _ rfl) ?_)
  first | (refine fx_val (fun _ => rfl) rfl (fun χ w hw => run_remv _ _ _ _ rfl) ?_) | (refine fx_val (fun _ => rfl) rfl (fun χ w hw => run_cvn _ _ _ rfl) ?_) | (refine fx_val (fun _ => rfl) rfl (fun χ w hw => run_lda _ _ rfl hw) ?_)
  refine fx_turn0 0 0 rfl rfl (by kernel_rfl) (by kernel_rfl) (by kernel_rfl) (fun _ => rfl) (fun x => x.1) ?_ ?_
  · intro χ X w _ hS
    exact stepX_al _ rfl (show St w0 bs w (X ++ _) from hS) (fun b w' _ hS' => ⟨(_, [_]), rfl, ⟨b, rfl⟩, hS'⟩)
  refine fx_turn0 0 1 rfl rfl (by kernel_rfl) (by kernel_rfl) (by kernel_rfl) (fun _ => rfl) (fun _ => undef) ?_ ?_
  · rintro χ X w ⟨⟨b, hb⟩, _⟩ hS
    have hS : St w0 bs w ((χ 11).2 ++ (X ++ _)) := hS
    rw [hb] at hS
    have hS : St w0 bs w (⟨b, #[.int .i64 0, .int .u32 0], 38, true⟩ :: (X ++ _)) := hS
    have hb1 : (χ 11).1 = .pointer (some ⟨b, 0, none⟩) := by rw [hb]
    exact stepX_stb _ _ _ rfl hS hb1 (fun w' hS' => ⟨(undef, [⟨b, #[.int .i64 rs, .int .u32 rg], 38, true⟩]), rfl, ⟨b, hb1, rfl⟩, hS'⟩)
  refine fx_end rfl ?_
  intro χ w hok hS
  obtain ⟨⟨b12, hb⟩, ⟨bo', hb1, hb2⟩, _⟩ := hok _ (.head _)
  rw [hb] at hb1
  obtain ⟨⟩ := hb1
  have hS : St w0 bs w (((χ 12).2 ++ []) ++ (⟨bt, #[.int .u8 a, .int .u8 i, .int .u8 c], 29, true⟩ :: moE bm ph M vi vg :: ⟨gb, blk [] slf l [], 38, true⟩ :: (E ++ (Ei ++ (Eg ++ (A1 ++ (A2 ++ H))))))) := hS
  rw [hb2, List.append_nil] at hS
  simp only [hb]
  simp only [List.cons_append, List.nil_append] at hS
  clear hok hb2 hb
  go_wp2_with (first | go_skip | go_skip | (refine wpList_is (.build _ _) rfl ?_; go_must (refine wpList_stp (by kernel_rfl) (stp_val (run_bd _ _ rfl) ?_))) | (refine wpList_is (.call { callee := .builtin .clear, args := #[_], argTypes := #[_] }) rfl ?_; go_must (refine wpList_stp (by kernel_rfl) (stp_cl _ _ rfl hS (by decide) ?_)); clear hS; intro w hS) | (refine wpList_is (.load _ _) rfl ?_; go_must (first | refine wpList_stp (by kernel_rfl) (stp_val (run_ld _ _ rfl hS) ?_) | refine wpList_stp (by kernel_rfl) (stp_val (run_lda _ _ rfl hS) ?_) | refine wpList_stp (by kernel_rfl) (stp_val (run_ld0 _ _ rfl hS) ?_) | refine wpList_stp (by kernel_rfl) (stp_val (run_lda0 _ _ rfl hS) ?_))) | (refine wpList_is (.store _ _ _) rfl ?_; go_must (first | refine wpList_stp (by kernel_rfl) (stp_st _ _ _ rfl hS ?_) | refine wpList_stp (by kernel_rfl) (stp_sta _ _ _ rfl hS ?_)); clear hS; intro w hS) | (refine wpList_is (.alloc _) rfl ?_; go_must (refine wpList_stp (by kernel_rfl) (stp_al _ rfl hS ?_)); clear hS; intro bN w hbN hS) | (refine wpList_is (.box _ _) rfl ?_; go_must (refine wpList_stp (by kernel_rfl) (stp_bx _ _ rfl hS ?_)); clear hS; intro bN w hbN hS) | (refine wpList_is (.binOp .eql _ _ (.const (.slice none _ _)) _) rfl ?_; refine wpList_stp (by kernel_rfl) (stp_val (run_nse _ _ _ rfl) ?_)) | (refine wpList_is (.binOp .neq _ _ (.const (.slice none _ _)) _) rfl ?_; refine wpList_stp (by kernel_rfl) (stp_val (run_nsn _ _ _ rfl) ?_)))
  have hS : St w0 bs w (⟨b12, #[.int .i64 rs, .int .u32 rg], 38, true⟩ :: ⟨bt, #[.int .u8 a, .int .u8 i, .int .u8 c], 29, true⟩ :: moE bm ph M vi vg :: ⟨gb, blk [] slf l [], 38, true⟩ :: (E ++ (Ei ++ (Eg ++ (A1 ++ (A2 ++ H)))))) := hS.pick
  refine region_itemsE [⟨(undef, []), [(11, fun _ x => ∃ b, x = (.pointer (some ⟨b, 0, none⟩), [⟨b, #[.int .i64 0, .int .u32 0], 38, true⟩])), (12, fun y x => ∃ b, y.1 = .pointer (some ⟨b, 0, none⟩) ∧ x.2 = [⟨b, #[.int .i64 xs, .int .u32 xg], 38, true⟩])]⟩]
    (⟨b12, #[.int .i64 rs, .int .u32 rg], 38, true⟩ :: ⟨bt, #[.int .u8 a, .int .u8 i, .int .u8 c], 29, true⟩ :: moE bm ph M vi vg :: ⟨gb, blk [] slf l [], 38, true⟩ :: (E ++ (Ei ++ (Eg ++ (A1 ++ (A2 ++ H)))))) (⟨b12, #[.int .i64 rs, .int .u32 rg], 38, true⟩ :: ⟨bt, #[.int .u8 a, .int .u8 i, .int .u8 c], 29, true⟩ :: moE bm ph M vi vg :: ⟨gb, blk [] slf l [], 38, true⟩ :: (E ++ (Ei ++ (Eg ++ (A1 ++ (A2 ++ H)))))) (by simp) hS (by kernel_rfl) (by kernel_rfl) ?_
  first | (refine fx_val (fun _ => rfl) rfl (fun χ w hw => run_remv _ _ _ _ rfl) ?_) | (refine fx_val (fun _ => rfl) rfl (fun χ w hw => run_cvn _ _ _ rfl) ?_) | (refine fx_val (fun _ => rfl) rfl (fun χ w hw => run_mv _ rfl) ?_)
  first | (refine fx_val (fun _ => rfl) rfl (fun χ w hw => run_remv _ _ _ _ rfl) ?_) | (refine fx_val (fun _ => rfl) rfl (fun χ w hw => run_cvn _ _ _ rfl) ?_) | (refine fx_val (fun _ => rfl) rfl (fun χ w hw => run_nc _ rfl) ?_)
  first | (refine fx_val (fun _ => rfl) rfl (fun χ w hw => run_remv _ _ _ _ rfl) ?_) | (refine fx_val (fun _ => rfl) rfl (fun χ w hw => run_cvn _ _ _ rfl) ?_) | (refine fx_val (fun _ => rfl) rfl (fun χ w hw => run_fa _ _ _ rfl) ?_)
  first | (refine fx_val (fun _ => rfl) rfl (fun χ w hw => run_remv _ _ _ _ rfl) ?_) | (refine fx_val (fun _ => rfl) rfl (fun χ w hw => run_cvn _ _ _ rfl) ?_) | (refine fx_val (fun _ => rfl) rfl (fun χ w hw => run_ld _ _ rfl hw) ?_)
  first | (refine fx_val (fun _ => rfl) rfl (fun χ w hw => run_remv _ _ _ _ rfl) ?_) | (refine fx_val (fun _ => rfl) rfl (fun χ w hw => run_cvn _ _ _ rfl) ?_) | (refine fx_val (fun _ => rfl) rfl (fun χ w hw => run_fa _ _ _ rfl) ?_)
  first | (refine fx_val (fun _ => rfl) rfl (fun χ w hw => run_remv _ _ _ _ rfl) ?_) | (refine fx_val (fun _ => rfl) rfl (fun χ w hw => run_cvn _ _ _ rfl) ?_) | (refine fx_val (fun _ => rfl) rfl (fun χ w hw => run_ld _ _ rfl hw) ?_)
  first | (refine fx_val (fun _ => rfl) rfl (fun χ w hw => run_remv _ _ _ _ rfl) ?_) | (refine fx_val (fun _ => rfl) rfl (fun χ w hw => run_cvn _ _ _ rfl) ?_) | (first | (refine fx_val (fun _ => rfl) rfl (fun χ w hw => run_mv _ rfl) ?_) | (refine fx_val (fun _ => rfl) rfl (fun χ w hw => run_as _ rfl) ?_) | (refine fx_val (fun _ => rfl) rfl (fun χ w hw => run_fa _ _ _ rfl) ?_) | (refine fx_val (fun _ => rfl) rfl (fun χ w hw => run_ld _ _ rfl hw) ?_) | (refine fx_val (fun _ => rfl) rfl (fun χ w hw => run_lda _ _ rfl hw) ?_) | (refine fx_val (fun _ => rfl) rfl (fun χ w hw => run_ld0 _ _ rfl hw) ?_) | (refine fx_val (fun _ => rfl) rfl (fun χ w hw => run_lda0 _ _ rfl hw) ?_) | (refine fx_val (fun _ => rfl) rfl (fun χ w hw => run_ine _ _ _ _ rfl) ?_) | (refine fx_val (fun _ => rfl) rfl (fun χ w hw => run_aeq _ _ _ _ rfl) ?_) | (refine fx_val (fun _ => rfl) rfl (fun χ w hw => run_ane _ _ _ _ rfl) ?_) | (refine fx_val (fun _ => rfl) rfl (fun χ w hw => run_lenv _ _ rfl) ?_) | (refine fx_val (fun _ => rfl) rfl (fun χ w hw => run_idxv _ _ _ rfl) ?_) | (refine fx_val (fun _ => rfl) rfl (fun χ w hw => run_pk1 _ _ _ rfl) ?_) | (refine fx_val (fun _ => rfl) rfl (fun χ w hw => run_pk2 _ _ _ rfl) ?_) | (refine fx_val (fun _ => rfl) rfl (fun χ w hw => run_nse _ _ _ rfl) ?_) | (refine fx_val (fun _ => rfl) rfl (fun χ w hw => run_nsn _ _ _ rfl) ?_) | (refine fx_val (fun _ => rfl) rfl (fun χ w hw => run_bd _ _ rfl) ?_) | (refine fx_val (fun _ => rfl) rfl (fun χ w hw => run_ieq _ _ _ _ rfl) ?_) | (refine fx_val (fun _ => rfl) rfl (fun χ w hw => run_beq _ _ _ _ rfl) ?_) | (refine fx_val (fun _ => rfl) rfl (fun χ w hw => run_bne _ _ _ _ rfl) ?_) | (refine fx_val (fun _ => rfl) rfl (fun χ w hw => run_bnot _ _ rfl) ?_) | (refine fx_val (fun _ => rfl) rfl (fun χ w hw => run_ext _ _ rfl) ?_) | (refine fx_val (fun _ => rfl) rfl (fun χ w hw => run_ilit _ _ _ _ rfl) ?_) | (refine fx_val (fun _ => rfl) rfl (fun χ w hw => run_cvn _ _ _ rfl) ?_) | (refine fx_val (fun _ => rfl) rfl (fun χ w hw => run_remn _ _ _ _ rfl (by decide)) ?_) | (refine fx_val (fun _ => rfl) rfl (fun χ w hw => run_nc _ rfl) ?_) | (refine fx_val (fun _ => rfl) rfl (fun χ w hw => run_inlit _ _ _ _ rfl) ?_) | (refine fx_skip (fun _ => rfl) ?_))
  first | (refine fx_val (fun _ => rfl) rfl (fun χ w hw => run_remv _ _ _ _ rfl) ?_) | (refine fx_val (fun _ => rfl) rfl (fun χ w hw => run_cvn _ _ _ rfl) ?_) | (refine fx_val (fun _ => rfl) rfl (fun χ w hw => run_mv _ rfl) ?_)
  first | (refine fx_val (fun _ => rfl) rfl (fun χ w hw => run_remv _ _ _ _ rfl) ?_) | (refine fx_val (fun _ => rfl) rfl (fun χ w hw => run_cvn _ _ _ rfl) ?_) | (first | (refine fx_val (fun _ => rfl) rfl (fun χ w hw => run_mv _ rfl) ?_) | (refine fx_val (fun _ => rfl) rfl (fun χ w hw => run_as _ rfl) ?_) | (refine fx_val (fun _ => rfl) rfl (fun χ w hw => run_fa _ _ _ rfl) ?_) | (refine fx_val (fun _ => rfl) rfl (fun χ w hw => run_ld _ _ rfl hw) ?_) | (refine fx_val (fun _ => rfl) rfl (fun χ w hw => run_lda _ _ rfl hw) ?_) | (refine fx_val (fun _ => rfl) rfl (fun χ w hw => run_ld0 _ _ rfl hw) ?_) | (refine fx_val (fun _ => rfl) rfl (fun χ w hw => run_lda0 _ _ rfl hw) ?_) | (refine fx_val (fun _ => rfl) rfl (fun χ w hw => run_ine _ _ _ _ rfl) ?_) | (refine fx_val (fun _ => rfl) rfl (fun χ w hw => run_aeq _ _ _ _ rfl) ?_) | (refine fx_val (fun _ => rfl) rfl (fun χ w hw => run_ane _ _ _ _ rfl) ?_) | (refine fx_val (fun _ => rfl) rfl (fun χ w hw => run_lenv _ _ rfl) ?_) | (refine fx_val (fun _ => rfl) rfl (fun χ w hw => run_idxv _ _ _ rfl) ?_) | (refine fx_val (fun _ => rfl) rfl (fun χ w hw => run_pk1 _ _ _ rfl) ?_) | (refine fx_val (fun _ => rfl) rfl (fun χ w hw => run_pk2 _ _ _ rfl) ?_) | (refine fx_val (fun _ => rfl) rfl (fun χ w hw => run_nse _ _ _ rfl) ?_) | (refine fx_val (fun _ => rfl) rfl (fun χ w hw => run_nsn _ _ _ rfl) ?_) | (refine fx_val (fun _ => rfl) rfl (fun χ w hw => run_bd _ _ rfl) ?_) | (refine fx_val (fun _ => rfl) rfl (fun χ w hw => run_ieq _ _ _ _ rfl) ?_) | (refine fx_val (fun _ => rfl) rfl (fun χ w hw => run_beq _ _ _ _ rfl) ?_) | (refine fx_val (fun _ => rfl) rfl (fun χ w hw => run_bne _ _ _ _ rfl) ?_) | (refine fx_val (fun _ => rfl) rfl (fun χ w hw => run_bnot _ _ rfl) ?_) | (refine fx_val (fun _ => rfl) rfl (fun χ w hw => run_ext _ _ rfl) ?_) | (refine fx_val (fun _ => rfl) rfl (fun χ w hw => run_ilit _ _ _ _ rfl) ?_) | (refine fx_val (fun _ => rfl) rfl (fun χ w hw => run_cvn _ _ _ rfl) ?_) | (refine fx_val (fun _ => rfl) rfl (fun χ w hw => run_remn _ _ _ _ rfl (by decide)) ?_) | (refine fx_val (fun _ => rfl) rfl (fun χ w hw => run_nc _ rfl) ?_) | (refine fx_val (fun _ => rfl) rfl (fun χ w hw => run_inlit _ _ _ _ rfl) ?_) | (refine fx_skip (fun _ => rfl) ?_))
  first | (refine fx_val (fun _ => rfl) rfl (fun χ w hw => run_remv _ _ _ _ rfl) ?_) | (refine fx_val (fun _ => rfl) rfl (fun χ w hw => run_cvn _ _ _ rfl) ?_) | (refine fx_val (fun _ => rfl) rfl (fun χ w hw => run_idxv _ _ _ rfl) ?_)
  first | (refine fx_val (fun _ => rfl) rfl (fun χ w hw => run_remv _ _ _ _ rfl) ?_) | (refine fx_val (fun _ => rfl) rfl (fun χ w hw => run_cvn _ _ _ rfl) ?_) | (refine fx_val (fun _ => rfl) rfl (fun χ w hw => run_lda _ _ rfl hw) ?_)
  refine fx_turn0 0 0 rfl rfl (by kernel_rfl) (by kernel_rfl) (by kernel_rfl) (fun _ => rfl) (fun x => x.1) ?_ ?_
  · intro χ X w _ hS
    exact stepX_al _ rfl (show St w0 bs w (X ++ _) from hS) (fun b w' _ hS' => ⟨(_, [_]), rfl, ⟨b, rfl⟩, hS'⟩)
  refine fx_turn0 0 1 rfl rfl (by kernel_rfl) (by kernel_rfl) (by kernel_rfl) (fun _ => rfl) (fun _ => undef) ?_ ?_
  · rintro χ X w ⟨⟨b, hb⟩, _⟩ hS
    have hS : St w0 bs w ((χ 11).2 ++ (X ++ _)) := hS
    rw [hb] at hS
    have hS : St w0 bs w (⟨b, #[.int .i64 0, .int .u32 0], 38, true⟩ :: (X ++ _)) := hS
    have hb1 : (χ 11).1 = .pointer (some ⟨b, 0, none⟩) := by rw [hb]
    exact stepX_stb _ _ _ rfl hS hb1 (fun w' hS' => ⟨(undef, [⟨b, #[.int .i64 xs, .int .u32 xg], 38, true⟩]), rfl, ⟨b, hb1, rfl⟩, hS'⟩)
  refine fx_end rfl ?_
  intro χ w hok hS
  obtain ⟨⟨b13, hb⟩, ⟨bo', hb1, hb2⟩, _⟩ := hok _ (.head _)
  rw [hb] at hb1
  obtain ⟨⟩ := hb1
  have hS : St w0 bs w (((χ 12).2 ++ []) ++ (⟨b12, #[.int .i64 rs, .int .u32 rg], 38, true⟩ :: ⟨bt, #[.int .u8 a, .int .u8 i, .int .u8 c], 29, true⟩ :: moE bm ph M vi vg :: ⟨gb, blk [] slf l [], 38, true⟩ :: (E ++ (Ei ++ (Eg ++ (A1 ++ (A2 ++ H))))))) := hS
  rw [hb2, List.append_nil] at hS
  simp only [hb]
  simp only [List.cons_append, List.nil_append] at hS
  clear hok hb2 hb
  go_wp2_with (first | go_skip | (refine wpList_is (.convert _ _ _) rfl ?_; refine wpList_stp (by kernel_rfl) (stp_val (run_cvn _ _ _ rfl) ?_)) | (refine wpList_is (.binOp .rem _ _ _ _) rfl ?_; refine wpList_stp (by kernel_rfl) (stp_val (run_remv _ _ _ _ rfl) ?_)) | go_skip | (refine wpList_is (.call { callee := .builtin .len, args := #[_], argTypes := #[_] }) rfl ?_; refine wpList_stp (by kernel_rfl) (stp_val (run_lenv _ _ rfl) ?_)) | (refine wpList_is (.slice _ _ none (some _) none) rfl ?_; refine wpList_stp (by kernel_rfl) (stp_val (run_prev _ _ _ rfl) ?_)) | (refine wpList_is (.indexAddr _ _ _) rfl ?_; refine wpList_stp (by kernel_rfl) (stp_val (run_idxv _ _ _ rfl) ?_)) | go_skip | (refine wpList_is (.build _ _) rfl ?_; go_must (refine wpList_stp (by kernel_rfl) (stp_val (run_bd _ _ rfl) ?_))) | (refine wpList_is (.call { callee := .builtin .clear, args := #[_], argTypes := #[_] }) rfl ?_; go_must (refine wpList_stp (by kernel_rfl) (stp_cl _ _ rfl hS (by decide) ?_)); clear hS; intro w hS) | (refine wpList_is (.load _ _) rfl ?_; go_must (first | refine wpList_stp (by kernel_rfl) (stp_val (run_ld _ _ rfl hS) ?_) | refine wpList_stp (by kernel_rfl) (stp_val (run_lda _ _ rfl hS) ?_) | refine wpList_stp (by kernel_rfl) (stp_val (run_ld0 _ _ rfl hS) ?_) | refine wpList_stp (by kernel_rfl) (stp_val (run_lda0 _ _ rfl hS) ?_))) | (refine wpList_is (.store _ _ _) rfl ?_; go_must (first | refine wpList_stp (by kernel_rfl) (stp_st _ _ _ rfl hS ?_) | refine wpList_stp (by kernel_rfl) (stp_sta _ _ _ rfl hS ?_)); clear hS; intro w hS) | (refine wpList_is (.alloc _) rfl ?_; go_must (refine wpList_stp (by kernel_rfl) (stp_al _ rfl hS ?_)); clear hS; intro bN w hbN hS) | (refine wpList_is (.box _ _) rfl ?_; go_must (refine wpList_stp (by kernel_rfl) (stp_bx _ _ rfl hS ?_)); clear hS; intro bN w hbN hS) | (refine wpList_is (.binOp .eql _ _ (.const (.slice none _ _)) _) rfl ?_; refine wpList_stp (by kernel_rfl) (stp_val (run_nse _ _ _ rfl) ?_)) | (refine wpList_is (.binOp .neq _ _ (.const (.slice none _ _)) _) rfl ?_; refine wpList_stp (by kernel_rfl) (stp_val (run_nsn _ _ _ rfl) ?_)))
  have hS : St w0 bs w (E ++ (⟨b13, #[.int .i64 0, .int .u32 0], 38, true⟩ :: ⟨b12, #[.int .i64 rs, .int .u32 rg], 38, true⟩ :: ⟨bt, #[.int .u8 a, .int .u8 i, .int .u8 c], 29, true⟩ :: moE bm ph M vi vg :: ⟨gb, blk [] slf l [], 38, true⟩ :: (Ei ++ (Eg ++ (A1 ++ (A2 ++ H)))))) := hS.pick
  refine region_itemsE [⟨(undef, E), [(7, fun _ x => HA ph (HL L) x.2)]⟩, ⟨(undef, []), [(11, fun _ x => ∃ b, x = (.pointer (some ⟨b, 0, none⟩), [⟨b, #[.int .i64 0, .int .u32 0], 38, true⟩])), (12, fun y x => ∃ b, y.1 = .pointer (some ⟨b, 0, none⟩) ∧ x.2 = [⟨b, #[.int .i64 0, .int .u32 0], 38, true⟩])]⟩]
    (⟨b13, #[.int .i64 0, .int .u32 0], 38, true⟩ :: ⟨b12, #[.int .i64 rs, .int .u32 rg], 38, true⟩ :: ⟨bt, #[.int .u8 a, .int .u8 i, .int .u8 c], 29, true⟩ :: moE bm ph M vi vg :: ⟨gb, blk [] slf l [], 38, true⟩ :: (Ei ++ (Eg ++ (A1 ++ (A2 ++ H))))) (E ++ (⟨b13, #[.int .i64 0, .int .u32 0], 38, true⟩ :: ⟨b12, #[.int .i64 rs, .int .u32 rg], 38, true⟩ :: ⟨bt, #[.int .u8 a, .int .u8 i, .int .u8 c], 29, true⟩ :: moE bm ph M vi vg :: ⟨gb, blk [] slf l [], 38, true⟩ :: (Ei ++ (Eg ++ (A1 ++ (A2 ++ H)))))) (by simp) hS (by kernel_rfl) (by kernel_rfl) ?_
  first | (refine fx_val (fun _ => rfl) rfl (fun χ w hw => run_remv _ _ _ _ rfl) ?_) | (refine fx_val (fun _ => rfl) rfl (fun χ w hw => run_cvn _ _ _ rfl) ?_) | (refine fx_val (fun _ => rfl) rfl (fun χ w hw => run_mv _ rfl) ?_)
  first | (refine fx_val (fun _ => rfl) rfl (fun χ w hw => run_remv _ _ _ _ rfl) ?_) | (refine fx_val (fun _ => rfl) rfl (fun χ w hw => run_cvn _ _ _ rfl) ?_) | (refine fx_val (fun _ => rfl) rfl (fun χ w hw => run_nc _ rfl) ?_)
  first | (refine fx_val (fun _ => rfl) rfl (fun χ w hw => run_remv _ _ _ _ rfl) ?_) | (refine fx_val (fun _ => rfl) rfl (fun χ w hw => run_cvn _ _ _ rfl) ?_) | (refine fx_val (fun _ => rfl) rfl (fun χ w hw => run_fa _ _ _ rfl) ?_)
  first | (refine fx_val (fun _ => rfl) rfl (fun χ w hw => run_remv _ _ _ _ rfl) ?_) | (refine fx_val (fun _ => rfl) rfl (fun χ w hw => run_cvn _ _ _ rfl) ?_) | (refine fx_val (fun _ => rfl) rfl (fun χ w hw => run_ld _ _ rfl hw) ?_)
  first | (refine fx_val (fun _ => rfl) rfl (fun χ w hw => run_remv _ _ _ _ rfl) ?_) | (refine fx_val (fun _ => rfl) rfl (fun χ w hw => run_cvn _ _ _ rfl) ?_) | (refine fx_val (fun _ => rfl) rfl (fun χ w hw => run_lda _ _ rfl hw) ?_)
  first | (refine fx_val (fun _ => rfl) rfl (fun χ w hw => run_remv _ _ _ _ rfl) ?_) | (refine fx_val (fun _ => rfl) rfl (fun χ w hw => run_cvn _ _ _ rfl) ?_) | (refine fx_val (fun _ => rfl) rfl (fun χ w hw => run_mv _ rfl) ?_)
  first | (refine fx_val (fun _ => rfl) rfl (fun χ w hw => run_remv _ _ _ _ rfl) ?_) | (refine fx_val (fun _ => rfl) rfl (fun χ w hw => run_cvn _ _ _ rfl) ?_) | (refine fx_val (fun _ => rfl) rfl (fun χ w hw => run_lda _ _ rfl hw) ?_)
  refine fx_turn 0 0 rfl rfl (by kernel_rfl) (by kernel_rfl) (by kernel_rfl) 22 [_, _, _, _] _ rfl (fun _ => rfl) (enters _ (by kernel_rfl)) (fun _ => .tuple #[.agg #[.int .i64 0, .int .u32 0], .int .i64 3]) ?_ ?_
  · intro χ X w _ hS
    exact hp_store (show St w0 bs w (E ++ (X ++ _)) from hS) hT rs rg c4 0 0 (by decide) _ (0, 0) 3 h1'.out h2'.out h3'.out (fun E' w' hT' hS' => ⟨(undef, E'), rfl, hT', show St w0 bs w' (E' ++ (X ++ _)) from hS'.pick⟩)
  first | (refine fx_val (fun _ => rfl) rfl (fun χ w hw => run_remv _ _ _ _ rfl) ?_) | (refine fx_val (fun _ => rfl) rfl (fun χ w hw => run_cvn _ _ _ rfl) ?_) | (refine fx_val (fun _ => rfl) rfl (fun χ w hw => run_mv _ rfl) ?_)
  first | (refine fx_val (fun _ => rfl) rfl (fun χ w hw => run_remv _ _ _ _ rfl) ?_) | (refine fx_val (fun _ => rfl) rfl (fun χ w hw => run_cvn _ _ _ rfl) ?_) | (refine fx_val (fun _ => rfl) rfl (fun χ w hw => run_ext _ _ rfl) ?_)
  first | (refine fx_val (fun _ => rfl) rfl (fun χ w hw => run_remv _ _ _ _ rfl) ?_) | (refine fx_val (fun _ => rfl) rfl (fun χ w hw => run_cvn _ _ _ rfl) ?_) | (refine fx_val (fun _ => rfl) rfl (fun χ w hw => run_ext _ _ rfl) ?_)
  refine fx_turn0 1 0 rfl rfl (by kernel_rfl) (by kernel_rfl) (by kernel_rfl) (fun _ => rfl) (fun x => x.1) ?_ ?_
  · intro χ X w _ hS
    exact stepX_al _ rfl (show St w0 bs w (X ++ _) from hS) (fun b w' _ hS' => ⟨(_, [_]), rfl, ⟨b, rfl⟩, hS'⟩)
  refine fx_turn0 1 1 rfl rfl (by kernel_rfl) (by kernel_rfl) (by kernel_rfl) (fun _ => rfl) (fun _ => undef) ?_ ?_
  · rintro χ X w ⟨⟨b, hb⟩, _⟩ hS
    have hS : St w0 bs w ((χ 11).2 ++ (X ++ _)) := hS
    rw [hb] at hS
    have hS : St w0 bs w (⟨b, #[.int .i64 0, .int .u32 0], 38, true⟩ :: (X ++ _)) := hS
    have hb1 : (χ 11).1 = .pointer (some ⟨b, 0, none⟩) := by rw [hb]
    exact stepX_stb _ _ _ rfl hS hb1 (fun w' hS' => ⟨(undef, [⟨b, #[.int .i64 0, .int .u32 0], 38, true⟩]), rfl, ⟨b, hb1, rfl⟩, hS'⟩)
  first | (refine fx_val (fun _ => rfl) rfl (fun χ w hw => run_remv _ _ _ _ rfl) ?_) | (refine fx_val (fun _ => rfl) rfl (fun χ w hw => run_cvn _ _ _ rfl) ?_) | (refine fx_val (fun _ => rfl) rfl (fun χ w hw => run_as _ rfl) ?_)
  refine fx_end rfl ?_
  intro χ w hok hS
  obtain ⟨hT2, _⟩ := hok _ (.head _)
  obtain ⟨⟨b15, hb⟩, ⟨bo', hb1, hb2⟩, _⟩ := hok _ (.tail _ (.head _))
  rw [hb] at hb1
  obtain ⟨⟩ := hb1
  have hS : St w0 bs w (((χ 7).2 ++ ((χ 12).2 ++ [])) ++ (⟨b13, #[.int .i64 0, .int .u32 0], 38, true⟩ :: ⟨b12, #[.int .i64 rs, .int .u32 rg], 38, true⟩ :: ⟨bt, #[.int .u8 a, .int .u8 i, .int .u8 c], 29, true⟩ :: moE bm ph M vi vg :: ⟨gb, blk [] slf l [], 38, true⟩ :: (Ei ++ (Eg ++ (A1 ++ (A2 ++ H)))))) := hS
  rw [hb2, List.append_nil, List.append_assoc] at hS
  have hT2 : HA ph (HL L) (χ 7).2 := hT2
  generalize (χ 7).2 = E' at hS hT2
  simp only [hb]
  simp only [List.cons_append, List.nil_append] at hS
  clear hok hb2 hb
  go_wp2_with (first | go_skip | (refine region_quiet hS (by kernel_rfl) (by kernel_rfl) (fun hne => ?_); (repeat (first | go_big_quiet_skip | (go_big_quiet_want; first | (refine quiet_is (.lookup _ _ _ _) rfl ?_; refine quiet_at sw_st (fun w hS => run_look _ _ _ rfl (hlk _ _ hS)) ?_; go_big_quiet_on) | (refine quiet_is (.load _ _) rfl ?_; go_must (first | refine quiet_at sw_st (fun w hS => run_ld _ _ rfl hS) ?_ | refine quiet_at sw_st (fun w hS => run_lda _ _ rfl hS) ?_ | refine quiet_at sw_st (fun w hS => run_ld0 _ _ rfl hS) ?_ | refine quiet_at sw_st (fun w hS => run_lda0 _ _ rfl hS) ?_); go_big_quiet_on) | (refine quiet_is (.binOp .eql _ _ (.const (.slice none _ _)) _) rfl ?_; refine quiet_val (fun w _ => run_nse _ _ _ rfl) ?_; go_big_quiet_on) | (refine quiet_is (.binOp .neq _ _ (.const (.slice none _ _)) _) rfl ?_; refine quiet_val (fun w _ => run_nsn _ _ _ rfl) ?_; go_big_quiet_on) | (refine quiet_is (.call { callee := .builtin .len, args := #[_], argTypes := #[_] }) rfl ?_; refine quiet_val (fun w _ => run_lenv _ _ rfl) ?_; go_big_quiet_on) | (refine quiet_is (.indexAddr _ _ _) rfl ?_; refine quiet_val (fun w _ => run_idxv _ _ _ rfl) ?_; go_big_quiet_on) | (refine quiet_is (.binOp .eql _ _ _ _) rfl ?_; refine quiet_val (fun w _ => run_aeq _ _ _ _ rfl) ?_; go_big_quiet_on) | (refine quiet_is (.binOp .neq _ _ _ _) rfl ?_; refine quiet_val (fun w _ => run_ane _ _ _ _ rfl) ?_; go_big_quiet_on) | (go_big_quiet_op; go_big_quiet_on)))); refine wpQuiet_nil ?_; clear hS hne; intro w hS) | (refine wpList_is (.binOp .eql _ _ _ _) rfl ?_; refine wpList_stp (by kernel_rfl) (stp_val (run_aeq _ _ _ _ rfl) ?_)) | (refine wpList_is (.binOp .neq _ _ _ _) rfl ?_; refine wpList_stp (by kernel_rfl) (stp_val (run_ane _ _ _ _ rfl) ?_)) | go_skip | (refine wpList_is (.build _ _) rfl ?_; go_must (refine wpList_stp (by kernel_rfl) (stp_val (run_bd _ _ rfl) ?_))) | (refine wpList_is (.call { callee := .builtin .clear, args := #[_], argTypes := #[_] }) rfl ?_; go_must (refine wpList_stp (by kernel_rfl) (stp_cl _ _ rfl hS (by decide) ?_)); clear hS; intro w hS) | (refine wpList_is (.load _ _) rfl ?_; go_must (first | refine wpList_stp (by kernel_rfl) (stp_val (run_ld _ _ rfl hS) ?_) | refine wpList_stp (by kernel_rfl) (stp_val (run_lda _ _ rfl hS) ?_) | refine wpList_stp (by kernel_rfl) (stp_val (run_ld0 _ _ rfl hS) ?_) | refine wpList_stp (by kernel_rfl) (stp_val (run_lda0 _ _ rfl hS) ?_))) | (refine wpList_is (.store _ _ _) rfl ?_; go_must (first | refine wpList_stp (by kernel_rfl) (stp_st _ _ _ rfl hS ?_) | refine wpList_stp (by kernel_rfl) (stp_sta _ _ _ rfl hS ?_)); clear hS; intro w hS) | (refine wpList_is (.alloc _) rfl ?_; go_must (refine wpList_stp (by kernel_rfl) (stp_al _ rfl hS ?_)); clear hS; intro bN w hbN hS) | (refine wpList_is (.box _ _) rfl ?_; go_must (refine wpList_stp (by kernel_rfl) (stp_bx _ _ rfl hS ?_)); clear hS; intro bN w hbN hS) | (refine wpList_is (.binOp .eql _ _ (.const (.slice none _ _)) _) rfl ?_; refine wpList_stp (by kernel_rfl) (stp_val (run_nse _ _ _ rfl) ?_)) | (refine wpList_is (.binOp .neq _ _ (.const (.slice none _ _)) _) rfl ?_; refine wpList_stp (by kernel_rfl) (stp_val (run_nsn _ _ _ rfl) ?_)))
  refine hR _ ⟨w0, bs, M, ph, vi, vg, L, ins, gone, ms, E', Ei, Eg, hB, ?_, hT2, hvi, hvg, hMo.more⟩
  rw [me_split hj'.out, hA1'.out, hA2'.out, meE_blk]
  simp only [List.append_assoc, List.cons_append]
  exact hS.pick
end Go.Proofs.Ytlpknbkgkhnfcaa
