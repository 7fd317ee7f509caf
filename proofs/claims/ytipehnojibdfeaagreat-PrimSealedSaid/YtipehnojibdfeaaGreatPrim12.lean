/- prim of terms: Seal, Open. -/
import Derived.Test.YtipehnojibdfeaaGreatPrim11
namespace Go.Proofs.YtipehnojibdfeaaGreat
open Go Go.Proofs Go.RowKit

set_option maxRecDepth 100000 in
set_option maxHeartbeats 4000000 in
theorem sealT_any (w : World) (base p n : Nat) (T : List Node) (k : Nat) (hp : TermPrim w base p n T k) (hlen : T.length ≤ 60000) (hn : n ≤ 1000000) (s1 s2 s3 s4 : List UInt8) (h1 : s1.length ≤ 65536) (h2 : s2.length ≤ 16384) (h3 : s3.length ≤ 16384) (h4 : s4.length ≤ 16384) :
    Calls Tryz.prog 10 #[.pointer (some ⟨p, 0, none⟩), .string (bs s1), .string (bs s2), .string (bs s3), .string (bs s4)] w fun e w' => e = .returned (.tuple #[.string (bs (textL (makeN T 6 [] [s1, s2, s3, s4]).2)), .int .i64 0]) ∧ TermPrim w' base p (n + 1) (makeN T 6 [] [s1, s2, s3, s4]).1 k ∧ Below base w w' := by
  have h := noneT_any w base p n T k hp
  obtain ⟨t, M, hM, hb, hbp, hP, hT⟩ := hp
  have q1 : Below w.heap.size w (w.alloc (.cells #[.string (bs s2), .string (bs s3), .string (bs s4)] 9)) := (Below.refl _ _).alloc (Nat.le_refl _) _
  have hlong := long_any (w.alloc (.cells #[.string (bs s2), .string (bs s3), .string (bs s4)] 9)) [bs s2, bs s3, bs s4] (some ⟨w.heap.size, 0, none⟩) 3 3 _ (reads_three w _ _ _ _) (by omega)
  have hll : longL [bs s2, bs s3, bs s4] = false := by simp [longL, bs_size]; omega
  rw [hll] at hlong
  have hs := symSeal_any (w.alloc (.cells #[.string (bs s2), .string (bs s3), .string (bs s4)] 9)) base t M T k (hT.later q1) (Nat.le_trans hM q1.size) (Nat.le_trans hb q1.size) hlen s1 s2 s3 s4 h1 (by omega) (by omega) (by omega)
  have HP := hP.later q1
  obtain ⟨j, xs, hB, hJ, hne⟩ := hP
  have hc' : (w.alloc (.cells #[.string (bs s2), .string (bs s3), .string (bs s4)] 9)).cell? ⟨p, 1, none⟩ = some (.iface 78 (.agg #[.pointer (some ⟨t, 0, none⟩)])) := (hB.alloc _).cell 1
  clear hB hJ hne hll
  go_enter Tryz.func10, Tryz.ntmps10
  go_wp2_with fail
  refine h.mono ?_
  rintro e w' ⟨rfl, hw⟩
  rw [hw]
  clear hw w' h
  go_wp2_with fail
  refine hlong.mono ?_
  rintro e w' ⟨rfl, hw⟩
  rw [hw]
  clear hw w' hlong
  go_wp2_with fail
  rw [meetsT_seal]
  go_wp2_with fail
  refine hs.mono ?_
  rintro e w2 ⟨rfl, hT2, q2⟩
  clear hs
  have hP2 := HP.far_ q2.2 notT_prim notT_deed
  have q12 : Below base w w2 := (q1.mono hb).trans q2.1
  have hd := did2_any w2 base p n _ _ _ hP2 hn (Nat.le_trans hb q12.size) hbp 1 (bs s1) (bs s2) (bs s3) (bs s4) (bs (textL (makeN T 6 [] [s1, s2, s3, s4]).2))
  clear hc'
  go_wp2_with fail
  refine hd.mono ?_
  rintro e w3 ⟨rfl, hP3, c3, f3⟩
  have q3 : Below base w w3 := q12.trans c3
  clear hd
  go_wp2
  go_ret2
  exact ⟨rfl, ⟨t, _, c3.size, Nat.le_trans hb q3.size, hbp, hP3, hT2.notPrim f3⟩, q3⟩

set_option maxRecDepth 100000 in
set_option maxHeartbeats 2000000 in
/-- a text that is too long, of either kind -/
theorem seal_long (w : World) (p : Nat) (s1 s2 s3 s4 : ByteArray) (hl : longL [s2, s3, s4] = true) (hnone : Calls Tryz.prog 27 #[.pointer (some ⟨p, 0, none⟩)] w fun e w' => e = .returned (.bool false) ∧ w' = w) :
    Calls Tryz.prog 10 #[.pointer (some ⟨p, 0, none⟩), .string s1, .string s2, .string s3, .string s4] w fun e w' => e = .returned (.tuple #[.string ⟨#[]⟩, .int .i64 3]) ∧ Below w.heap.size w w' := by
  have hlong := long_any (w.alloc (.cells #[.string s2, .string s3, .string s4] 9)) [s2, s3, s4] (some ⟨w.heap.size, 0, none⟩) 3 3 _ (reads_three w _ _ _ _) (by omega)
  rw [hl] at hlong
  clear hl
  go_enter Tryz.func10, Tryz.ntmps10
  go_wp2_with fail
  refine hnone.mono ?_
  rintro e w' ⟨rfl, hw⟩
  rw [hw]
  clear hw w' hnone
  go_wp2_with fail
  refine hlong.mono ?_
  rintro e w' ⟨rfl, hw⟩
  rw [hw]
  clear hw w' hlong
  go_wp2
  go_ret2
  exact ⟨rfl, (Below.refl _ _).alloc (Nat.le_refl _) _⟩

set_option maxRecDepth 100000 in
set_option maxHeartbeats 4000000 in
theorem openT_any (w : World) (base p n : Nat) (T : List Node) (k : Nat) (hp : TermPrim w base p n T k) (hlen : T.length ≤ 60000) (hn : n ≤ 1000000) (key nonce ad sealed : List UInt8) (hkl : key.length ≤ 9223372036854775807) (hnl : nonce.length ≤ 9223372036854775807) (hal : ad.length ≤ 9223372036854775807) (hsl : sealed.length ≤ 9223372036854775807)
    (m nd pa pb pc pd km j : Nat) (l nb cb txt : List UInt8) (hm : numOf T.length sealed = some m) (hx : T[m]? = some (.made 6 nd l [pa, pb, pc, pd])) (hpa : pa ≤ 65536)
    (hkm : numOf T.length key = some km) (hkx : T[km]? = some (.name j)) (hnn : numOf T.length nonce = none) (hnx : T[pb]? = some (.data nb)) (han : numOf T.length ad = none) (hax : T[pc]? = some (.data cb)) (htx : T[pd]? = some (.data txt))
    (b : Bool) (hbv : b = (decide (key = textL pa) && decide (nonce = nb) && decide (ad = cb))) :
    Calls Tryz.prog 11 #[.pointer (some ⟨p, 0, none⟩), .string (bs key), .string (bs nonce), .string (bs ad), .string (bs sealed)] w fun e w' => e = .returned (openR b txt) ∧ TermPrim w' base p (if b then n + 1 else n) T k ∧ Below base w w' := by
  have h := noneT_any w base p n T k hp
  obtain ⟨t, M, hM, hb, hbp, hP, hT⟩ := hp
  have hs := symOpen_any w base t M T k hT hlen key nonce ad sealed hkl hnl hal hsl m nd pa pb pc pd km j l nb cb txt hm hx hpa hkm hkx hnn hnx han hax htx _ _ _ rfl rfl rfl
  rw [← hbv] at hs
  have HP := hP
  obtain ⟨j', xs, hB, hJ, hne⟩ := hP
  have hc' : w.cell? ⟨p, 1, none⟩ = some (.iface 78 (.agg #[.pointer (some ⟨t, 0, none⟩)])) := hB.cell 1
  clear hB hJ hne hbv hm hx hkm hkx hnn hnx han hax htx
  go_enter Tryz.func11, Tryz.ntmps11
  go_wp2_with fail
  refine h.mono ?_
  rintro e w' ⟨rfl, hw⟩
  rw [hw]
  clear hw w' h
  go_wp2_with fail
  rw [meetsT_open]
  go_wp2_with fail
  refine hs.mono ?_
  rintro e w2 ⟨rfl, q2⟩
  clear hs
  have hP2 := HP.later q2
  have hT2 := hT.later q2
  have q2b := q2.mono hb
  cases b with
  | true =>
    have hd := did2_any w2 base p n _ _ _ hP2 hn (Nat.le_trans hb q2b.size) hbp 2 (bs key) (bs nonce) (bs ad) (bs sealed) (bs txt)
    clear hc' hT hP2
    unfold openR
    go_wp2_with fail
    refine hd.mono ?_
    rintro e w3 ⟨rfl, hP3, c3, f3⟩
    have q3 : Below base w w3 := q2b.trans c3
    clear hd
    go_wp2
    go_ret2
    exact ⟨rfl, ⟨t, M, Nat.le_trans hM q3.size, Nat.le_trans hb q3.size, hbp, hP3, hT2.notPrim f3⟩, q3⟩
  | false =>
    clear hc' hT
    unfold openR
    go_wp2
    go_ret2
    exact ⟨rfl, ⟨t, M, Nat.le_trans hM q2.size, Nat.le_trans hb q2.size, hbp, hP2, hT2⟩, q2b⟩
end Go.Proofs.YtipehnojibdfeaaGreat
