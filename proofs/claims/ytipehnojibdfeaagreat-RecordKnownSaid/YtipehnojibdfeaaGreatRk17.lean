/- Parts of the proof, as they were built: Rec12, Rec13, Rec14. -/
import Derived.Test.YtipehnojibdfeaaGreatRk16
import Derived.Deep.RegionHeld3

/- RecordKnown: the frames of its bytes, with either kind: sealed, taken, refused. -/
namespace Go.Proofs.YtipehnojibdfeaaGreat
open Go Go.Proofs Go.RowKit

theorem key1_size : key1.size = 32 := by unfold key1; rw [bs_size]; rfl
/-- the frame of a number in which the real kind seals one byte -/
def frR (F H : Nat → Int) (n : Nat) (b : UInt8) : ByteArray := bs (num8 n ++ sealF F H key1.data.toList (num8 n) (num8 n) [b])
theorem frR_size (F H : Nat → Int) (n : Nat) (b : UInt8) : (frR F H n b).size = 41 := by rw [frR, bs_size, List.length_append, num8_length, sealF_length]; rfl
theorem frR_list (F H : Nat → Int) (n : Nat) (b : UInt8) : (frR F H n b).data.toList = num8 n ++ sealF F H key1.data.toList (num8 n) (num8 n) [b] := rfl

set_option maxRecDepth 100000 in
theorem sealK (w : World) (base p n r n1 n2 : Nat) (b : UInt8) (hp : RealP w base p n) (hn : n ≤ 1000) (hb : base ≤ w.heap.size) (hbp : base ≤ p) (hbr : base ≤ r) (hr : Blk w r 67 (recCells p key1 n1 key2 n2)) (hn1 : n1 ≤ 1000) (F H : Nat → Int) (hT : Tabs w F H) (m : Nat) (hm : m = n1 + 1) (f : ByteArray) (hf : f = frR F H m b) :
    Calls Tryz.prog 13 #[.pointer (some ⟨r, 0, none⟩), .string ⟨#[b]⟩] w fun e w' => e = .returned (.tuple #[.string f, .int .i64 0]) ∧ RealP w' base p (n + 1) ∧ Blk w' r 67 (recCells p key1 m key2 n2) ∧ RecKeeps base r w w' := by
  subst hf
  subst hm
  exact recSealR w base p n r n1 n2 key1 key2 ⟨#[b]⟩ hp (by omega) hb hbp hbr hr (by omega) key1_size (by show 1 ≤ 16384; omega) F H hT

set_option maxRecDepth 100000 in
theorem takeK_yes (w : World) (base p n r n2 m : Nat) (b : UInt8) (hp : RealP w base p n) (hn : n ≤ 1000) (hb : base ≤ w.heap.size) (hbp : base ≤ p) (hbr : base ≤ r) (hr : Blk w r 67 (recCells p key2 0 key1 n2)) (hm : n2 < m) (hm2 : m ≤ 1000) (F H : Nat → Int) (hT : Tabs w F H) (f : ByteArray) (hf : f = frR F H m b) :
    Calls Tryz.prog 15 #[.pointer (some ⟨r, 0, none⟩), .string f] w fun e w' => e = .returned (.tuple #[.string ⟨#[b]⟩, .int .i64 0]) ∧ RealP w' base p (n + 1) ∧ Blk w' r 67 (recCells p key2 0 key1 m) ∧ RecKeeps base r w w' := by
  subst hf
  obtain ⟨g1, g2, g3⟩ := frame_parts (num8 m) (sealF F H key1.data.toList (num8 m) (num8 m) [b]) (num8_length m)
  have g4 : numIn (frR F H m b) = m := g3.trans (beNat_num8 m (by omega))
  have h := recTakeR_yes w base p n r 0 n2 key2 key1 (frR F H m b) (bs [b]) hp (by omega) hb hbp hbr hr (by rw [frR_size]; omega) (by rw [frR_size]; omega) (by rw [g4]; exact hm) (fun x => by
    unfold frR
    rw [g1, g2]
    exact hopR key1 key1_size (num8 m) [b] (num8_length m) (by simp) F H x.v (hT.later x.h))
  rw [g4] at h
  exact h
set_option maxRecDepth 100000 in
theorem takeK_stale (w : World) (r p n2 m : Nat) (b : UInt8) (hr : Blk w r 67 (recCells p key2 0 key1 n2)) (hm : m ≤ n2) (hm2 : m ≤ 1000) (F H : Nat → Int) (f : ByteArray) (hf : f = frR F H m b) :
    Calls Tryz.prog 15 #[.pointer (some ⟨r, 0, none⟩), .string f] w fun e w' => e = .returned (.tuple #[.string ⟨#[]⟩, .int .i64 12]) ∧ Below w.heap.size w w' := by
  subst hf
  obtain ⟨g1, g2, g3⟩ := frame_parts (num8 m) (sealF F H key1.data.toList (num8 m) (num8 m) [b]) (num8_length m)
  have g4 : numIn (frR F H m b) = m := g3.trans (beNat_num8 m (by omega))
  exact recTake_stale w r p 0 n2 key2 key1 _ hr (by rw [frR_size]; omega) (by rw [g4]; exact hm)
set_option maxRecDepth 100000 in
/-- .. with its last byte turned -/
theorem takeK_turned (w : World) (base p n r n2 m : Nat) (b x : UInt8) (hp : RealP w base p n) (hr : Blk w r 67 (recCells p key2 0 key1 n2)) (hm : n2 < m) (hm2 : m ≤ 1000) (F H : Nat → Int) (hT : Tabs w F H) (f : ByteArray) (hf : f = frR F H m b) (lt : List UInt8) (hlt : lt = f.data.toList.set 40 x) (hx : f.data.toList[40]? ≠ some x) :
    Calls Tryz.prog 15 #[.pointer (some ⟨r, 0, none⟩), .string ⟨lt.toArray⟩] w fun e w' => e = .returned (.tuple #[.string ⟨#[]⟩, .int .i64 10]) ∧ Below w.heap.size w w' := by
  subst hf
  have hS : (sealF F H key1.data.toList (num8 m) (num8 m) [b]).length = 33 := by rw [sealF_length]; rfl
  rw [frR_list] at hlt hx
  rw [List.set_append_right _ _ (by rw [num8_length]; omega), num8_length] at hlt
  rw [List.getElem?_append_right (by rw [num8_length]; omega), num8_length] at hx
  obtain ⟨g1, g2, g3⟩ := frame_parts (num8 m) ((sealF F H key1.data.toList (num8 m) (num8 m) [b]).set (40 - 8) x) (num8_length m)
  rw [← hlt] at g1 g2 g3
  have g4 : numIn (bs lt) = m := g3.trans (beNat_num8 m (by omega))
  have hl : (bs lt).size = 41 := by rw [bs_size, hlt, List.length_append, num8_length, List.length_set, hS]
  refine recTakeR_no w base p n r 0 n2 key2 key1 (bs lt) ⟨#[]⟩ hp hr (by omega) (by omega) (by rw [g4]; exact hm) (fun X => ?_)
  rw [g1, g2]
  have h := plainOpen_any X.v key1 (bs (num8 m)) (bs (num8 m)) (bs ((sealF F H key1.data.toList (num8 m) (num8 m) [b]).set (40 - 8) x)) 1 key1_size (by rw [bs_size, num8_length]; omega) (by rw [bs_size, num8_length]; omega) (by rw [bs_size, List.length_set, hS]) (by omega) F H (hT.later X.h)
  rw [bs_list, bs_list] at h
  have ht := openPost_turned F H key1.data.toList (num8 m) (num8 m) [b] (40 - 8) x (by simp) (by simp) hx
  rw [show [b].length = 1 from rfl] at ht
  rw [ht] at h
  exact h
/-! make([]byte, n), as a text -/
def zerosW (W : World) (n : Nat) : World := W.alloc (.cells (madeCells #[.int .u8 0] n) 5)
theorem zerosW_below (W : World) (n : Nat) : Below W.heap.size W (zerosW W n) := (Below.refl _ _).alloc (Nat.le_refl _) _
theorem zerosW_make (W : World) (n : Nat) (hn : n ≤ 1000000) : (Instr.makeSlice 30 (.int .i64 (n : Int)) (.int .i64 (n : Int))).run Tryz.prog W = .ok (.slice (some ⟨W.heap.size, 0, none⟩) n n) (zerosW W n) := by
  obtain ⟨i0, hi, hz0, hz1, hz2⟩ := info_parts Tryz.infoByte
  have h := run_make_rowN (P := Tryz.prog) 30 5 i0 (.int .u8 0) Tryz.underlying30 hi hz0 .i64 .i64 n n (by omega) (by rw [hz2]; omega) (by omega) W
  rw [hz1, Nat.mul_one] at h
  exact h
theorem zerosW_conv (W : World) (n : Nat) : (convert 30 9 (.slice (some ⟨W.heap.size, 0, none⟩) n n)).run Tryz.prog (zerosW W n) = .ok (.string (bs (List.replicate n 0))) (zerosW W n) := by
  have hB : Blk (zerosW W n) W.heap.size 5 (madeCells #[.int .u8 0] n) := Blk.new _ _ _
  have h := run_convert_bytes_back (P := Tryz.prog) (zerosW W n) 30 9 5 ⟨W.heap.size, 0, none⟩ n (List.replicate n (0 : UInt8)) Tryz.underlying30 Tryz.underlying5 Tryz.underlying9 (fun j hj => by
    have hjn : j < n := by simpa using hj
    rw [addr_add, Nat.zero_add, hB.cell j, List.getElem_replicate]
    simp [madeCells, hjn, Nat.mod_one])
  rw [List.length_replicate] at h
  exact h
theorem zerosLong (s : ByteArray) (a b : ByteArray) (h : 16384 < s.size) : longL [a, b, s] = true := by simp [longL]; omega
set_option maxRecDepth 100000 in
theorem sealK_long (w : World) (base p n r n1 n2 : Nat) (s : ByteArray) (hs : 16384 < s.size) (hp : RealP w base p n) (hr : Blk w r 67 (recCells p key1 n1 key2 n2)) (hn1 : n1 ≤ 1000) :
    Calls Tryz.prog 13 #[.pointer (some ⟨r, 0, none⟩), .string s] w fun e w' => e = .returned (.tuple #[.string ⟨#[]⟩, .int .i64 3]) ∧ Below w.heap.size w w' :=
  recSeal_err w r p n1 n2 key1 key2 s 3 (by omega) hr (by omega) (fun x => seal_long x.v p _ _ _ _ (zerosLong s _ _ hs) (by
    obtain ⟨j, xs, hB, _, _⟩ := hp.later x.h
    exact none_any x.v p j hB))

/-! with terms -/
def frT (n m : Nat) : ByteArray := bs (num8 n ++ textL m)
theorem frT_size (n m : Nat) : (frT n m).size = 16 := by rw [frT, bs_size, List.length_append, num8_length, textL_length]
set_option maxRecDepth 100000 in
theorem sealKT (w : World) (base p n r n1 n2 : Nat) (T T' : List Node) (m : Nat) (b : UInt8) (hp : TermPrim w base p n T 2) (hlen : T.length ≤ 60000) (hn : n ≤ 1000) (hbr : base ≤ r) (hr : Blk w r 67 (recCells p (bs (textL 0)) n1 (bs (textL 1)) n2)) (hn1 : n1 ≤ 1000) (m1 : Nat) (hm1 : m1 = n1 + 1) (f : ByteArray) (hf : f = frT m1 m) (he : makeN T 6 [] [textL 0, num8 m1, num8 m1, [b]] = (T', m)) :
    Calls Tryz.prog 13 #[.pointer (some ⟨r, 0, none⟩), .string ⟨#[b]⟩] w fun e w' => e = .returned (.tuple #[.string f, .int .i64 0]) ∧ TermPrim w' base p (n + 1) T' 2 ∧ Blk w' r 67 (recCells p (bs (textL 0)) m1 (bs (textL 1)) n2) ∧ RecKeeps base r w w' := by
  subst hf
  subst hm1
  have h := recSealT w base p n r n1 n2 T 2 (textL 0) (bs (textL 1)) [b] hp hlen (by omega) hbr hr (by omega) (by rw [textL_length]; omega) (by simp)
  rw [he] at h
  exact h
set_option maxRecDepth 100000 in
theorem takeKT_stale (w : World) (r p n2 m i : Nat) (s1 s2 : ByteArray) (hr : Blk w r 67 (recCells p s1 0 s2 n2)) (hm : m ≤ n2) (hm2 : m ≤ 1000) (f : ByteArray) (hf : f = frT m i) :
    Calls Tryz.prog 15 #[.pointer (some ⟨r, 0, none⟩), .string f] w fun e w' => e = .returned (.tuple #[.string ⟨#[]⟩, .int .i64 12]) ∧ Below w.heap.size w w' := by
  subst hf
  obtain ⟨g1, g2, g3⟩ := frame_parts (num8 m) (textL i) (num8_length m)
  have g4 : numIn (frT m i) = m := g3.trans (beNat_num8 m (by omega))
  exact recTake_stale w r p 0 n2 s1 s2 _ hr (by rw [frT_size]; omega) (by rw [g4]; exact hm)
set_option maxRecDepth 100000 in
theorem takeKT_yes (w : World) (base p n r n2 m i pb pd : Nat) (T : List Node) (b : UInt8) (hp : TermPrim w base p n T 2) (hlen : T.length ≤ 60000) (hn : n ≤ 1000) (hbr : base ≤ r) (hr : Blk w r 67 (recCells p (bs (textL 1)) 0 (bs (textL 0)) n2)) (hm : n2 < m) (hm2 : m ≤ 1000)
    (hi : numOf T.length (textL i) = some i) (hx : T[i]? = some (.made 6 0 [] [0, pb, pb, pd])) (h0 : numOf T.length (textL 0) = some 0) (h0x : T[0]? = some (.name 0)) (hnn : numOf T.length (num8 m) = none) (hnx : T[pb]? = some (.data (num8 m))) (htx : T[pd]? = some (.data [b])) (f : ByteArray) (hf : f = frT m i) :
    Calls Tryz.prog 15 #[.pointer (some ⟨r, 0, none⟩), .string f] w fun e w' => e = .returned (.tuple #[.string ⟨#[b]⟩, .int .i64 0]) ∧ TermPrim w' base p (n + 1) T 2 ∧ Blk w' r 67 (recCells p (bs (textL 1)) 0 (bs (textL 0)) m) ∧ RecKeeps base r w w' := by
  subst hf
  have hbm := beNat_num8 m (by omega)
  have h := recTakeT_yes w base p n r 0 n2 T 2 (bs (textL 1)) (textL 0) (num8 m) (textL i) hp hlen (by omega) hbr hr (num8_length m) (by rw [hbm]; exact hm) (by rw [textL_length]; omega) (by rw [textL_length]; omega) i 0 0 pb pb pd 0 0 [] [b] hi hx (by omega) h0 h0x rfl hnn hnx hnx htx
  rw [hbm] at h
  exact h
set_option maxRecDepth 100000 in
theorem takeKT_none (w : World) (base p n r n2 m i : Nat) (T : List Node) (s1 s2 : ByteArray) (hp : TermPrim w base p n T 2) (hlen : T.length ≤ 60000) (hr : Blk w r 67 (recCells p s1 0 s2 n2)) (hm : n2 < m) (hm2 : m ≤ 1000) (hi : numOf T.length (textL i) = none) (f : ByteArray) (hf : f = frT m i) :
    Calls Tryz.prog 15 #[.pointer (some ⟨r, 0, none⟩), .string f] w fun e w' => e = .returned (.tuple #[.string ⟨#[]⟩, .int .i64 10]) ∧ Below w.heap.size w w' := by
  subst hf
  obtain ⟨g1, g2, g3⟩ := frame_parts (num8 m) (textL i) (num8_length m)
  have g4 : numIn (frT m i) = m := g3.trans (beNat_num8 m (by omega))
  refine (recTake_any w r p 0 n2 s1 s2 (frT m i) ⟨#[]⟩ 10 (by omega) hr (by rw [frT_size]; omega) (by rw [frT_size]; omega) (by rw [g4]; exact hm) (fun x w' => Below x.heap.size x w') (fun x => ?_) (fun x w' g t cs h hB _ => hB.later h)).mono ?_
  · unfold frT
    rw [g2]
    exact openT_none x.v base p n T 2 (hp.later x.h) hlen s2 _ _ (textL i) (by rw [textL_length]; omega) hi
  · intro e w' h
    rw [if_neg (by omega)] at h
    obtain ⟨he, x, hb, _⟩ := h
    exact ⟨he, Below.step x.h hb⟩
set_option maxRecDepth 100000 in
theorem sealKT_long (w : World) (base p n r n1 n2 : Nat) (T : List Node) (s s1 s2 : ByteArray) (hs : 16384 < s.size) (hp : TermPrim w base p n T 2) (hr : Blk w r 67 (recCells p s1 n1 s2 n2)) (hn1 : n1 ≤ 1000) :
    Calls Tryz.prog 13 #[.pointer (some ⟨r, 0, none⟩), .string s] w fun e w' => e = .returned (.tuple #[.string ⟨#[]⟩, .int .i64 3]) ∧ Below w.heap.size w w' :=
  recSeal_err w r p n1 n2 s1 s2 s 3 (by omega) hr (by omega) (fun x => seal_long x.v p _ _ _ _ (zerosLong s _ _ hs) (noneT_any x.v base p n T 2 (hp.later x.h)))
/-! the table, as it grows -/
def kT2 : List Node := wR5 ++ [.data (num8 2), .data [121], .made 6 0 [] [0, 5, 5, 6]]
def kT3 : List Node := kT2 ++ [.data (num8 3), .data [122], .made 6 0 [] [0, 8, 8, 9]]
def kT4 : List Node := kT3 ++ [.data (num8 4), .data [119], .made 6 0 [] [0, 11, 11, 12]]
theorem kq2 : makeN wR5 6 [] [textL 0, num8 2, num8 2, [121]] = (kT2, 7) := by kernel_rfl
theorem kq3 : makeN kT2 6 [] [textL 0, num8 3, num8 3, [122]] = (kT3, 10) := by kernel_rfl
theorem kq4 : makeN kT3 6 [] [textL 0, num8 4, num8 4, [119]] = (kT4, 13) := by kernel_rfl
theorem kn2 : numOf kT2.length (textL 7) = some 7 ∧ numOf kT2.length (textL 0) = some 0 ∧ numOf kT2.length (num8 2) = none := ⟨by kernel_rfl, by kernel_rfl, by kernel_rfl⟩
theorem kn3 : numOf kT3.length (textL 10) = some 10 ∧ numOf kT3.length (textL 0) = some 0 ∧ numOf kT3.length (num8 3) = none ∧ numOf kT3.length (textL 11) = none := ⟨by kernel_rfl, by kernel_rfl, by kernel_rfl, by kernel_rfl⟩
theorem kn4 : numOf kT4.length (textL 13) = some 13 ∧ numOf kT4.length (textL 0) = some 0 ∧ numOf kT4.length (num8 4) = none := ⟨by kernel_rfl, by kernel_rfl, by kernel_rfl⟩
end Go.Proofs.YtipehnojibdfeaaGreat

/- RecordKnown: one round, with the real kind. -/
namespace Go.Proofs.YtipehnojibdfeaaGreat
open Go Go.Proofs Go.RowKit

set_option maxRecDepth 100000 in
set_option maxHeartbeats 16000000 in
theorem known_real (w : World) (F H : Nat → Int) (hT : Tabs w F H)
    {i0 i2 i3 i4 i5 i6 i7 i8 i9 i10 i11 i12 i13 i14 i15 i16 i17 i18 i19 i20 i21 i22 i23 i24 i25 i26 i27 i28 c29 c30 c31 c32 c33 c34 c35 c36 c37 i38 i39 i40 i41 i42 i43 i44 i45 i46 i47 i48 i49 i50 i51 i52 i53 i54 i55 i56 i57 i58 i59 i60 i61 i62 i63 i64 i65 i66 i67 i68 i69 i70 i71 i72 i73 i74 i75 i76 i77 i78 i79 i80 i81 i82 i83 i84 i85 i86 i87 i88 i89 i90 i91 i92 i93 i94 i95 i96 i97 i98 i99 i100 i101 i102 i103 i104 i105 i106 i107 i108 i109 i110 i111 i112 i113 i114 i115 i116 i117 i118 i119 i120 i121 i122 i123 i124 i125 i126 i127 i128 i129 i130 i131 i132 i133 i134 i135 i136 i137 i138 i139 i140 i141 i142 i143 i144 i145 i146 i147 i148 i149 i150 i151 i152 i153 i154 i155 i156 i157 i158 i159 i160 i161 i162 i163 i164 i165 i166 i167 i168 i169 i170 i171 i172 i173 i174 i175 i176 i177 i178 i179 i180 i181 i182 i183 i184 i185 i186 i187 i188 i189 i190 i191 i192 i193 i194 i195 i196 i197 i198 i199 i200 i201 i202 i203 i204 i205 i206 i207 i208 i209 i210 i211 i212 c213 c214 c215 c216 c217 c218 c219 c220 c221 c222 c223 c224 c225 c226 c227 c228 c229 c230 c231 c232 c233 c234 c235 c236 c237 c238 c239 c240 c241 c242 c243 c244 c245 c246 c247 c248 c249 c250 : Value}
    (Q : Exit → Act → World → Prop) (hQ : ∀ (u0 u2 u3 u4 u5 u6 u7 u8 u9 u10 u11 u12 u13 u14 u15 u16 u17 u18 u19 u20 u21 u22 u23 u24 u25 u26 u27 u28 u38 u39 u40 u41 u42 u43 u44 u45 u46 u47 u48 u49 u50 u51 u52 u53 u54 u55 u56 u57 u58 u59 u60 u61 u62 u63 u64 u65 u66 u67 u68 u69 u70 u71 u72 u73 u74 u75 u76 u77 u78 u79 u80 u81 u82 u83 u84 u85 u86 u87 u88 u89 u90 u91 u92 u93 u94 u95 u96 u97 u98 u99 u100 u101 u102 u103 u104 u105 u106 u107 u108 u109 u110 u111 u112 u113 u114 u115 u116 u117 u118 u119 u120 u121 u122 u123 u124 u125 u126 u127 u128 u129 u130 u131 u132 u133 u134 u135 u136 u137 u138 u139 u140 u141 u142 u143 u144 u145 u146 u147 u148 u149 u150 u151 u152 u153 u154 u155 u156 u157 u158 u159 u160 u161 u162 u163 u164 u165 u166 u167 u168 u169 u170 u171 u172 u173 u174 u175 u176 u177 u178 u179 u180 u181 u182 u183 u184 u185 u186 u187 u188 u189 u190 u191 u192 u193 u194 u195 u196 u197 u198 u199 u200 u201 u202 u203 u204 u205 u206 u207 u208 u209 u210 u211 u212 : Value) (w' : World), Below w.heap.size w w' → Q .normal ⟨(u0 :: .int .i64 0 :: u2 :: u3 :: u4 :: u5 :: u6 :: u7 :: u8 :: u9 :: u10 :: u11 :: u12 :: u13 :: u14 :: u15 :: u16 :: u17 :: u18 :: u19 :: u20 :: u21 :: u22 :: u23 :: u24 :: u25 :: u26 :: u27 :: u28 :: c29 :: c30 :: c31 :: c32 :: c33 :: c34 :: c35 :: c36 :: c37 :: u38 :: u39 :: u40 :: u41 :: u42 :: u43 :: u44 :: u45 :: u46 :: u47 :: u48 :: u49 :: u50 :: u51 :: u52 :: u53 :: u54 :: u55 :: u56 :: u57 :: u58 :: u59 :: u60 :: u61 :: u62 :: u63 :: u64 :: u65 :: u66 :: u67 :: u68 :: u69 :: u70 :: u71 :: u72 :: u73 :: u74 :: u75 :: u76 :: u77 :: u78 :: u79 :: u80 :: u81 :: u82 :: u83 :: u84 :: u85 :: u86 :: u87 :: u88 :: u89 :: u90 :: u91 :: u92 :: u93 :: u94 :: u95 :: u96 :: u97 :: u98 :: u99 :: u100 :: u101 :: u102 :: u103 :: u104 :: u105 :: u106 :: u107 :: u108 :: u109 :: u110 :: u111 :: u112 :: u113 :: u114 :: u115 :: u116 :: u117 :: u118 :: u119 :: u120 :: u121 :: u122 :: u123 :: u124 :: u125 :: u126 :: u127 :: u128 :: u129 :: u130 :: u131 :: u132 :: u133 :: u134 :: u135 :: u136 :: u137 :: u138 :: u139 :: u140 :: u141 :: u142 :: u143 :: u144 :: u145 :: u146 :: u147 :: u148 :: u149 :: u150 :: u151 :: u152 :: u153 :: u154 :: u155 :: u156 :: u157 :: u158 :: u159 :: u160 :: u161 :: u162 :: u163 :: u164 :: u165 :: u166 :: u167 :: u168 :: u169 :: u170 :: u171 :: u172 :: u173 :: u174 :: u175 :: u176 :: u177 :: u178 :: u179 :: u180 :: u181 :: u182 :: u183 :: u184 :: u185 :: u186 :: u187 :: u188 :: u189 :: u190 :: u191 :: u192 :: u193 :: u194 :: u195 :: u196 :: u197 :: u198 :: u199 :: u200 :: u201 :: u202 :: u203 :: u204 :: u205 :: u206 :: u207 :: u208 :: u209 :: u210 :: u211 :: u212 :: c213 :: c214 :: c215 :: c216 :: c217 :: c218 :: c219 :: c220 :: c221 :: c222 :: c223 :: c224 :: c225 :: c226 :: c227 :: c228 :: c229 :: c230 :: c231 :: c232 :: c233 :: c234 :: c235 :: c236 :: c237 :: c238 :: c239 :: c240 :: c241 :: c242 :: c243 :: c244 :: c245 :: c246 :: c247 :: c248 :: c249 :: c250 :: []).toArray, []⟩ w') :
    (codeBlock 1 Tryz.f5).wp Tryz.prog Q ⟨(i0 :: .int .i64 0 :: i2 :: i3 :: i4 :: i5 :: i6 :: i7 :: i8 :: i9 :: i10 :: i11 :: i12 :: i13 :: i14 :: i15 :: i16 :: i17 :: i18 :: i19 :: i20 :: i21 :: i22 :: i23 :: i24 :: i25 :: i26 :: i27 :: i28 :: c29 :: c30 :: c31 :: c32 :: c33 :: c34 :: c35 :: c36 :: c37 :: i38 :: i39 :: i40 :: i41 :: i42 :: i43 :: i44 :: i45 :: i46 :: i47 :: i48 :: i49 :: i50 :: i51 :: i52 :: i53 :: i54 :: i55 :: i56 :: i57 :: i58 :: i59 :: i60 :: i61 :: i62 :: i63 :: i64 :: i65 :: i66 :: i67 :: i68 :: i69 :: i70 :: i71 :: i72 :: i73 :: i74 :: i75 :: i76 :: i77 :: i78 :: i79 :: i80 :: i81 :: i82 :: i83 :: i84 :: i85 :: i86 :: i87 :: i88 :: i89 :: i90 :: i91 :: i92 :: i93 :: i94 :: i95 :: i96 :: i97 :: i98 :: i99 :: i100 :: i101 :: i102 :: i103 :: i104 :: i105 :: i106 :: i107 :: i108 :: i109 :: i110 :: i111 :: i112 :: i113 :: i114 :: i115 :: i116 :: i117 :: i118 :: i119 :: i120 :: i121 :: i122 :: i123 :: i124 :: i125 :: i126 :: i127 :: i128 :: i129 :: i130 :: i131 :: i132 :: i133 :: i134 :: i135 :: i136 :: i137 :: i138 :: i139 :: i140 :: i141 :: i142 :: i143 :: i144 :: i145 :: i146 :: i147 :: i148 :: i149 :: i150 :: i151 :: i152 :: i153 :: i154 :: i155 :: i156 :: i157 :: i158 :: i159 :: i160 :: i161 :: i162 :: i163 :: i164 :: i165 :: i166 :: i167 :: i168 :: i169 :: i170 :: i171 :: i172 :: i173 :: i174 :: i175 :: i176 :: i177 :: i178 :: i179 :: i180 :: i181 :: i182 :: i183 :: i184 :: i185 :: i186 :: i187 :: i188 :: i189 :: i190 :: i191 :: i192 :: i193 :: i194 :: i195 :: i196 :: i197 :: i198 :: i199 :: i200 :: i201 :: i202 :: i203 :: i204 :: i205 :: i206 :: i207 :: i208 :: i209 :: i210 :: i211 :: i212 :: c213 :: c214 :: c215 :: c216 :: c217 :: c218 :: c219 :: c220 :: c221 :: c222 :: c223 :: c224 :: c225 :: c226 :: c227 :: c228 :: c229 :: c230 :: c231 :: c232 :: c233 :: c234 :: c235 :: c236 :: c237 :: c238 :: c239 :: c240 :: c241 :: c242 :: c243 :: c244 :: c245 :: c246 :: c247 :: c248 :: c249 :: c250 :: []).toArray, []⟩ w := by
  conv => arg 2; whnf
  have hbo := bothReal_any w
  go_wp2_with fail
  refine hbo.mono ?_
  rintro e w1 ⟨p, q1, q2, rfl, hp0, hp1, hp2, hP, hq1, hq2, b⟩
  clear hbo
  have hP : RealP w1 w.heap.size p 0 := hP
  obtain ⟨f1, hf1⟩ : ∃ f, f = frR F H 1 120 := ⟨_, rfl⟩
  obtain ⟨f2, hf2⟩ : ∃ f, f = frR F H 2 121 := ⟨_, rfl⟩
  obtain ⟨f3, hf3⟩ : ∃ f, f = frR F H 3 122 := ⟨_, rfl⟩
  obtain ⟨f4, hf4⟩ : ∃ f, f = frR F H 4 119 := ⟨_, rfl⟩
  have HF1 : Hid (f1 = frR F H 1 120) := hf1
  have HF2 : Hid (f2 = frR F H 2 121) := hf2
  have HF3 : Hid (f3 = frR F H 3 122) := hf3
  have HF4 : Hid (f4 = frR F H 4 119) := hf4
  have s1 : f1.size = 41 := by rw [hf1, frR_size]
  have s3 : f3.size = 41 := by rw [hf3, frR_size]
  have hpre : ((f1.extract 0 8).toList == [0, 0, 0, 0, 0, 0, 0, 1]) = true := by
    rw [hf1, frR, (frame_parts (num8 1) _ (num8_length 1)).1, Lib.toList_data, bs_list]
    decide
  have hmin : min (f1.size : Int) 8 = 8 := by omega
  have S1 : Hid (f1.size = 41) := s1
  have S3 : Hid (f3.size = 41) := s3
  clear hf1 hf2 hf3 hf4 s1 s3
  have hs := sealK w1 w.heap.size p 0 q1 0 0 120 hP (by omega) b.size hp0 (by omega) hq1 (by omega) F H (hT.later b) 1 rfl f1 HF1.out
  go_wp2_with fail
  refine hs.mono ?_
  rintro e w2 ⟨rfl, hP', hq1', hk⟩
  clear hs
  have hq2' := hk.2 _ _ _ (by omega) hq2 ⟨by decide, by decide, by decide, by decide⟩
  have b' := b.trans hk.1
  clear hP hq1 hq2 b hk
  have hP := hP'
  have hq1 := hq1'
  have hq2 := hq2'
  have b := b'
  clear hP' hq1' hq2' b'
  have hs := sealK w2 w.heap.size p 1 q1 1 0 121 hP (by omega) b.size hp0 (by omega) hq1 (by omega) F H (hT.later b) 2 rfl f2 HF2.out
  go_wp2_with fail
  refine hs.mono ?_
  rintro e w3 ⟨rfl, hP', hq1', hk⟩
  clear hs
  have hq2' := hk.2 _ _ _ (by omega) hq2 ⟨by decide, by decide, by decide, by decide⟩
  have b' := b.trans hk.1
  clear hP hq1 hq2 b hk
  have hP := hP'
  have hq1 := hq1'
  have hq2 := hq2'
  have b := b'
  clear hP' hq1' hq2' b'
  have hs := takeK_yes w3 w.heap.size p 2 q2 0 2 121 hP (by omega) b.size hp0 (by omega) hq2 (by omega) (by omega) F H (hT.later b) f2 HF2.out
  go_wp2_with fail
  refine hs.mono ?_
  rintro e w4 ⟨rfl, hP', hq2', hk⟩
  clear hs
  have hq1' := hk.2 _ _ _ (by omega) hq1 ⟨by decide, by decide, by decide, by decide⟩
  have b' := b.trans hk.1
  clear hP hq1 hq2 b hk
  have hP := hP'
  have hq1 := hq1'
  have hq2 := hq2'
  have b := b'
  clear hP' hq1' hq2' b'
  have hs := takeK_stale w4 q2 p 2 1 120 hq2 (by omega) (by omega) F H f1 HF1.out
  go_wp2_with fail
  refine hs.mono ?_
  rintro e w5 ⟨rfl, hk⟩
  clear hs
  have hP' := hP.later hk
  have hq1' := hq1.later hk
  have hq2' := hq2.later hk
  have b' := b.trans (hk.mono b.size)
  clear hP hq1 hq2 b hk
  have hP := hP'
  have hq1 := hq1'
  have hq2 := hq2'
  have b := b'
  clear hP' hq1' hq2' b'
  have hs := takeK_stale w5 q2 p 2 2 121 hq2 (by omega) (by omega) F H f2 HF2.out
  go_wp2_with fail
  refine hs.mono ?_
  rintro e w6 ⟨rfl, hk⟩
  clear hs
  have hP' := hP.later hk
  have hq1' := hq1.later hk
  have hq2' := hq2.later hk
  have b' := b.trans (hk.mono b.size)
  clear hP hq1 hq2 b hk
  have hP := hP'
  have hq1 := hq1'
  have hq2 := hq2'
  have b := b'
  clear hP' hq1' hq2' b'
  have hs := recSent_any w6 q1 p 2 0 key1 key2 hq1
  have hs2 := recSeen_any w6 q2 p 0 2 key2 key1 hq2
  have s1 : 8 ≤ (f1.size : Int) := by have := S1.out; omega
  go_wp2_with fail
  refine hs.mono ?_
  rintro e w' ⟨rfl, hw⟩
  rw [hw]
  clear hw w' hs
  go_wp2_with fail
  refine hs2.mono ?_
  rintro e w' ⟨rfl, hw⟩
  rw [hw]
  clear hw w' hs2
  have hs := sealK w6 w.heap.size p 3 q1 2 0 122 hP (by omega) b.size hp0 (by omega) hq1 (by omega) F H (hT.later b) 3 rfl f3 HF3.out
  go_wp2_with fail
  refine hs.mono ?_
  rintro e w7 ⟨rfl, hP', hq1', hk⟩
  clear hs
  have hq2' := hk.2 _ _ _ (by omega) hq2 ⟨by decide, by decide, by decide, by decide⟩
  have b' := b.trans hk.1
  clear hP hq1 hq2 b hk
  have hP := hP'
  have hq1 := hq1'
  have hq2 := hq2'
  have b := b'
  clear hP' hq1' hq2' b'
  have hcv := Lib.run_convert_string_bytes (P := Tryz.prog) w7 9 30 5 f3 Tryz.underlying9 Tryz.underlying30 Tryz.underlying5
  have bB := bytesWorld_below w7 5 f3
  have Cb := Lib.bytesWorld_cell w7 5 f3 40 (by have := S3.out; omega)
  have Fb := bytesWorld_free w7 5 f3 40 (by have := S3.out; omega)
  have hset := bytesWorld_set w7 5 f3 40
  obtain ⟨cB, hcB⟩ : ∃ cB, cB = grownCap w7 f3.size 0 5 := ⟨_, rfl⟩
  rw [← hcB, S3.out] at hcv
  clear hcB
  obtain ⟨by0, hby0⟩ : ∃ b : Nat, b = (f3.data.toList.getD 40 0).toNat := ⟨_, rfl⟩
  rw [← hby0] at Cb
  have hby1 : by0 < 256 := by rw [hby0]; exact (f3.data.toList.getD 40 0).toNat_lt
  have HBY : Hid (by0 = (f3.data.toList.getD 40 0).toNat) := hby0
  clear hby0
  obtain ⟨wB, hwB⟩ : ∃ wB, wB = Lib.bytesWorld w7 5 f3 := ⟨_, rfl⟩
  rw [← hwB] at bB Cb Fb hset hcv
  clear hwB
  obtain ⟨xr, hxr⟩ : ∃ xr, xr = xor8 (by0 : Int) (1 : Int) := ⟨_, rfl⟩
  have hxr1 : 0 ≤ xr ∧ xr < 256 := by rw [hxr]; exact xor8_in _ _
  clear hpre hmin s1
  go_upto_region 19 with (fail)
  rw [show bits BinOp.xor IntKind.u8 (by0 : Int) (1 : Int) = xr from hxr.symm]
  obtain ⟨lt, hlt⟩ : ∃ lt, lt = f3.data.toList.set 40 xr.toNat.toUInt8 := ⟨_, rfl⟩
  have hltl : lt.length = 41 := by rw [hlt, List.length_set]; exact S3.out
  have hset2 := hset xr hxr1
  rw [← hlt] at hset2
  have hcv2 := run_convert_bytes_back (P := Tryz.prog) (wB.setCell ⟨w7.heap.size, 40, none⟩ (.int .u8 xr)) 30 9 5 ⟨w7.heap.size, 0, none⟩ cB lt Tryz.underlying30 Tryz.underlying5 Tryz.underlying9 (fun j hj => by rw [addr_add, Nat.zero_add]; exact hset2 j hj)
  rw [hltl] at hcv2
  have hbx : Hid (f3.data.toList[40]? ≠ some xr.toNat.toUInt8) := by
    show _ ≠ _
    intro h
    have h40 : 40 < f3.data.toList.length := by show 40 < f3.size; rw [S3.out]; omega
    have hb0 : by0 = (f3.data.toList[40]).toNat := by rw [HBY.out, List.getD_eq_getElem?_getD, List.getElem?_eq_getElem h40]; rfl
    rw [List.getElem?_eq_getElem h40] at h
    have h2 : xr.toNat = by0 := by
      have := congrArg UInt8.toNat (Option.some.inj h)
      rw [u8_of_nat _ (by omega)] at this
      omega
    have h3 : xor8 (by0 : Int) 1 = (by0 : Int) := by rw [← hxr]; omega
    have h4 : ((by0 ^^^ 1 : Nat) : Int) = (by0 : Int) := by rw [← u8_xor by0 1 hby1 (by omega)]; exact h3
    have h5 : by0 ^^^ 1 = by0 := by omega
    have h6 : (by0 ^^^ (by0 ^^^ 1)) = by0 ^^^ by0 := by rw [h5]
    rw [← Nat.xor_assoc, Nat.xor_self, Nat.zero_xor] at h6
    omega
  have bC : Below w7.heap.size w7 (wB.setCell ⟨w7.heap.size, 40, none⟩ (.int .u8 xr)) := bB.setCell (by show w7.heap.size ≤ w7.heap.size; omega) _
  clear hset hset2 hltl hcv Cb Fb bB hxr1 hxr
  generalize (wB.setCell ⟨w7.heap.size, 40, none⟩ (.int .u8 xr)) = wC at hcv2 bC ⊢
  clear HBY hby1 wB
  have hP' := hP.later bC
  have hq1' := hq1.later bC
  have hq2' := hq2.later bC
  have b' := b.trans (bC.mono b.size)
  clear hP hq1 hq2 b bC
  have hP := hP'
  have hq1 := hq1'
  have hq2 := hq2'
  have b := b'
  clear hP' hq1' hq2' b'
  have hs := takeK_turned wC w.heap.size p 4 q2 2 3 122 xr.toNat.toUInt8 hP hq2 (by omega) (by omega) F H (hT.later b) f3 HF3.out lt hlt hbx.out
  clear hlt hbx
  go_wp2_with fail
  refine hs.mono ?_
  rintro e w8 ⟨rfl, hk⟩
  clear hs
  have hP' := hP.later hk
  have hq1' := hq1.later hk
  have hq2' := hq2.later hk
  have b' := b.trans (hk.mono b.size)
  clear hP hq1 hq2 b hk
  have hP := hP'
  have hq1 := hq1'
  have hq2 := hq2'
  have b := b'
  clear hP' hq1' hq2' b'
  clear hcv2
  have hs := takeK_yes w8 w.heap.size p 4 q2 2 3 122 hP (by omega) b.size hp0 (by omega) hq2 (by omega) (by omega) F H (hT.later b) f3 HF3.out
  go_wp2_with fail
  refine hs.mono ?_
  rintro e w9 ⟨rfl, hP', hq2', hk⟩
  clear hs
  have hq1' := hk.2 _ _ _ (by omega) hq1 ⟨by decide, by decide, by decide, by decide⟩
  have b' := b.trans hk.1
  clear hP hq1 hq2 b hk
  have hP := hP'
  have hq1 := hq1'
  have hq2 := hq2'
  have b := b'
  clear hP' hq1' hq2' b'
  have hs := recTake_short w9 q2 p 0 3 key2 key1 ⟨#[49, 50, 51, 52, 53, 54, 55]⟩ hq2 (by decide)
  go_wp2_with fail
  refine hs.mono ?_
  rintro e w10 ⟨rfl, hk⟩
  clear hs
  have hP' := hP.later hk
  have hq1' := hq1.later hk
  have hq2' := hq2.later hk
  have b' := b.trans (hk.mono b.size)
  clear hP hq1 hq2 b hk
  have hP := hP'
  have hq1 := hq1'
  have hq2 := hq2'
  have b := b'
  clear hP' hq1' hq2' b'
  have hmk : (Instr.makeSlice 30 (.int .i64 16385) (.int .i64 16385)).run Tryz.prog w10 = .ok (.slice (some ⟨w10.heap.size, 0, none⟩) 16385 16385) (zerosW w10 16385) := zerosW_make w10 16385 (by omega)
  have hcv := zerosW_conv w10 16385
  have hzb := zerosW_below w10 16385
  obtain ⟨zs, hzs⟩ : ∃ zs, zs = bs (List.replicate 16385 (0 : UInt8)) := ⟨_, rfl⟩
  have hzl : 16384 < zs.size := by rw [hzs, bs_size, List.length_replicate]; omega
  rw [← hzs] at hcv
  clear hzs
  obtain ⟨wz, hwz⟩ : ∃ wz, wz = zerosW w10 16385 := ⟨_, rfl⟩
  rw [← hwz] at hmk hcv hzb
  clear hwz
  have hs := sealK_long wz w.heap.size p 5 q1 3 0 zs hzl (hP.later hzb) (hq1.later hzb) (by omega)
  have hzb2 := hzb.size
  go_wp2_with fail
  refine hs.mono ?_
  rintro e w11 ⟨rfl, hk⟩
  clear hs hmk hcv
  have hk' := Below.step hzb hk
  clear hzb hk hzb2
  have hP' := hP.later hk'
  have hq1' := hq1.later hk'
  have hq2' := hq2.later hk'
  have b' := b.trans (hk'.mono b.size)
  clear hP hq1 hq2 b hk'
  have hP := hP'
  have hq1 := hq1'
  have hq2 := hq2'
  have b := b'
  clear hP' hq1' hq2' b'
  have hs := recSent_any w11 q1 p 3 0 key1 key2 hq1
  go_wp2_with fail
  refine hs.mono ?_
  rintro e w' ⟨rfl, hw⟩
  rw [hw]
  clear hw w' hs
  have hs := recCopy_any w11 q2 p p 0 3 key2 key1 hq2
  go_wp2_with fail
  refine hs.mono ?_
  rintro e w12 ⟨rfl, hc, hk⟩
  clear hs
  have hlt := hq2.lt
  have hP' := hP.later hk
  have hq1' := hq1.later hk
  have hq2' := hq2.later hk
  have b' := b.trans (hk.mono b.size)
  have hsz := b.size
  clear hP hq1 hq2 b hk
  have hP := hP'
  have hq1 := hq1'
  have hq2 := hq2'
  have b := b'
  clear hP' hq1' hq2' b'
  have hs := recSeen_any w12 w11.heap.size p 0 3 key2 key1 hc
  go_wp2_with fail
  refine hs.mono ?_
  rintro e w' ⟨rfl, hw⟩
  rw [hw]
  clear hw w' hs
  have hs := recCopy_nil w12 q2 p 0 3 key2 key1 hq2
  go_wp2_with fail
  refine hs.mono ?_
  rintro e w' ⟨rfl, hw⟩
  rw [hw]
  clear hw w' hs
  have hs := sealK w12 w.heap.size p 5 q1 3 0 119 hP (by omega) b.size hp0 (by omega) hq1 (by omega) F H (hT.later b) 4 rfl f4 HF4.out
  go_wp2_with fail
  refine hs.mono ?_
  rintro e w13 ⟨rfl, hP', hq1', hk⟩
  clear hs
  have hq2' := hk.2 _ _ _ (by omega) hq2 ⟨by decide, by decide, by decide, by decide⟩
  have hc' := hk.2 _ _ _ (by omega) hc ⟨by decide, by decide, by decide, by decide⟩
  have b' := b.trans hk.1
  clear hP hq1 hq2 hc b hk
  have hs := takeK_yes w13 w.heap.size p 6 w11.heap.size 3 4 119 hP' (by omega) b'.size hp0 (by omega) hc' (by omega) (by omega) F H (hT.later b') f4 HF4.out
  go_wp2_with fail
  refine hs.mono ?_
  rintro e w14 ⟨rfl, hP'', hc'', hk⟩
  clear hs
  have hq2'' := hk.2 _ _ _ (by omega) hq2' ⟨by decide, by decide, by decide, by decide⟩
  have b'' := b'.trans hk.1
  clear hP' hq1' hq2' hc' b' hk hc''
  have hs := recSeen_any w14 q2 p 0 3 key2 key1 hq2''
  go_wp2_with fail
  refine hs.mono ?_
  rintro e w' ⟨rfl, hw⟩
  rw [hw]
  clear hw w' hs
  go_wp2
  exact b''
end Go.Proofs.YtipehnojibdfeaaGreat

/- RecordKnown: one round, with terms. -/
namespace Go.Proofs.YtipehnojibdfeaaGreat
open Go Go.Proofs Go.RowKit

set_option maxRecDepth 100000 in
set_option maxHeartbeats 16000000 in
theorem known_term (w : World)
    {i0 i2 i3 i4 i5 i6 i7 i8 i9 i10 i11 i12 i13 i14 i15 i16 i17 i18 i19 i20 i21 i22 i23 i24 i25 i26 i27 i28 c29 c30 c31 c32 c33 c34 c35 c36 c37 i38 i39 i40 i41 i42 i43 i44 i45 i46 i47 i48 i49 i50 i51 i52 i53 i54 i55 i56 i57 i58 i59 i60 i61 i62 i63 i64 i65 i66 i67 i68 i69 i70 i71 i72 i73 i74 i75 i76 i77 i78 i79 i80 i81 i82 i83 i84 i85 i86 i87 i88 i89 i90 i91 i92 i93 i94 i95 i96 i97 i98 i99 i100 i101 i102 i103 i104 i105 i106 i107 i108 i109 i110 i111 i112 i113 i114 i115 i116 i117 i118 i119 i120 i121 i122 i123 i124 i125 i126 i127 i128 i129 i130 i131 i132 i133 i134 i135 i136 i137 i138 i139 i140 i141 i142 i143 i144 i145 i146 i147 i148 i149 i150 i151 i152 i153 i154 i155 i156 i157 i158 i159 i160 i161 i162 i163 i164 i165 i166 i167 i168 i169 i170 i171 i172 i173 i174 i175 i176 i177 i178 i179 i180 i181 i182 i183 i184 i185 i186 i187 i188 i189 i190 i191 i192 i193 i194 i195 i196 i197 i198 i199 i200 i201 i202 i203 i204 i205 i206 i207 i208 i209 i210 i211 i212 c213 c214 c215 c216 c217 c218 c219 c220 c221 c222 c223 c224 c225 c226 c227 c228 c229 c230 c231 c232 c233 c234 c235 c236 c237 c238 c239 c240 c241 c242 c243 c244 c245 c246 c247 c248 c249 c250 : Value}
    (Q : Exit → Act → World → Prop) (hQ : ∀ (u0 u2 u3 u4 u5 u6 u7 u8 u9 u10 u11 u12 u13 u14 u15 u16 u17 u18 u19 u20 u21 u22 u23 u24 u25 u26 u27 u28 u38 u39 u40 u41 u42 u43 u44 u45 u46 u47 u48 u49 u50 u51 u52 u53 u54 u55 u56 u57 u58 u59 u60 u61 u62 u63 u64 u65 u66 u67 u68 u69 u70 u71 u72 u73 u74 u75 u76 u77 u78 u79 u80 u81 u82 u83 u84 u85 u86 u87 u88 u89 u90 u91 u92 u93 u94 u95 u96 u97 u98 u99 u100 u101 u102 u103 u104 u105 u106 u107 u108 u109 u110 u111 u112 u113 u114 u115 u116 u117 u118 u119 u120 u121 u122 u123 u124 u125 u126 u127 u128 u129 u130 u131 u132 u133 u134 u135 u136 u137 u138 u139 u140 u141 u142 u143 u144 u145 u146 u147 u148 u149 u150 u151 u152 u153 u154 u155 u156 u157 u158 u159 u160 u161 u162 u163 u164 u165 u166 u167 u168 u169 u170 u171 u172 u173 u174 u175 u176 u177 u178 u179 u180 u181 u182 u183 u184 u185 u186 u187 u188 u189 u190 u191 u192 u193 u194 u195 u196 u197 u198 u199 u200 u201 u202 u203 u204 u205 u206 u207 u208 u209 u210 u211 u212 : Value) (w' : World), Below w.heap.size w w' → Q .normal ⟨(u0 :: .int .i64 1 :: u2 :: u3 :: u4 :: u5 :: u6 :: u7 :: u8 :: u9 :: u10 :: u11 :: u12 :: u13 :: u14 :: u15 :: u16 :: u17 :: u18 :: u19 :: u20 :: u21 :: u22 :: u23 :: u24 :: u25 :: u26 :: u27 :: u28 :: c29 :: c30 :: c31 :: c32 :: c33 :: c34 :: c35 :: c36 :: c37 :: u38 :: u39 :: u40 :: u41 :: u42 :: u43 :: u44 :: u45 :: u46 :: u47 :: u48 :: u49 :: u50 :: u51 :: u52 :: u53 :: u54 :: u55 :: u56 :: u57 :: u58 :: u59 :: u60 :: u61 :: u62 :: u63 :: u64 :: u65 :: u66 :: u67 :: u68 :: u69 :: u70 :: u71 :: u72 :: u73 :: u74 :: u75 :: u76 :: u77 :: u78 :: u79 :: u80 :: u81 :: u82 :: u83 :: u84 :: u85 :: u86 :: u87 :: u88 :: u89 :: u90 :: u91 :: u92 :: u93 :: u94 :: u95 :: u96 :: u97 :: u98 :: u99 :: u100 :: u101 :: u102 :: u103 :: u104 :: u105 :: u106 :: u107 :: u108 :: u109 :: u110 :: u111 :: u112 :: u113 :: u114 :: u115 :: u116 :: u117 :: u118 :: u119 :: u120 :: u121 :: u122 :: u123 :: u124 :: u125 :: u126 :: u127 :: u128 :: u129 :: u130 :: u131 :: u132 :: u133 :: u134 :: u135 :: u136 :: u137 :: u138 :: u139 :: u140 :: u141 :: u142 :: u143 :: u144 :: u145 :: u146 :: u147 :: u148 :: u149 :: u150 :: u151 :: u152 :: u153 :: u154 :: u155 :: u156 :: u157 :: u158 :: u159 :: u160 :: u161 :: u162 :: u163 :: u164 :: u165 :: u166 :: u167 :: u168 :: u169 :: u170 :: u171 :: u172 :: u173 :: u174 :: u175 :: u176 :: u177 :: u178 :: u179 :: u180 :: u181 :: u182 :: u183 :: u184 :: u185 :: u186 :: u187 :: u188 :: u189 :: u190 :: u191 :: u192 :: u193 :: u194 :: u195 :: u196 :: u197 :: u198 :: u199 :: u200 :: u201 :: u202 :: u203 :: u204 :: u205 :: u206 :: u207 :: u208 :: u209 :: u210 :: u211 :: u212 :: c213 :: c214 :: c215 :: c216 :: c217 :: c218 :: c219 :: c220 :: c221 :: c222 :: c223 :: c224 :: c225 :: c226 :: c227 :: c228 :: c229 :: c230 :: c231 :: c232 :: c233 :: c234 :: c235 :: c236 :: c237 :: c238 :: c239 :: c240 :: c241 :: c242 :: c243 :: c244 :: c245 :: c246 :: c247 :: c248 :: c249 :: c250 :: []).toArray, []⟩ w') :
    (codeBlock 1 Tryz.f5).wp Tryz.prog Q ⟨(i0 :: .int .i64 1 :: i2 :: i3 :: i4 :: i5 :: i6 :: i7 :: i8 :: i9 :: i10 :: i11 :: i12 :: i13 :: i14 :: i15 :: i16 :: i17 :: i18 :: i19 :: i20 :: i21 :: i22 :: i23 :: i24 :: i25 :: i26 :: i27 :: i28 :: c29 :: c30 :: c31 :: c32 :: c33 :: c34 :: c35 :: c36 :: c37 :: i38 :: i39 :: i40 :: i41 :: i42 :: i43 :: i44 :: i45 :: i46 :: i47 :: i48 :: i49 :: i50 :: i51 :: i52 :: i53 :: i54 :: i55 :: i56 :: i57 :: i58 :: i59 :: i60 :: i61 :: i62 :: i63 :: i64 :: i65 :: i66 :: i67 :: i68 :: i69 :: i70 :: i71 :: i72 :: i73 :: i74 :: i75 :: i76 :: i77 :: i78 :: i79 :: i80 :: i81 :: i82 :: i83 :: i84 :: i85 :: i86 :: i87 :: i88 :: i89 :: i90 :: i91 :: i92 :: i93 :: i94 :: i95 :: i96 :: i97 :: i98 :: i99 :: i100 :: i101 :: i102 :: i103 :: i104 :: i105 :: i106 :: i107 :: i108 :: i109 :: i110 :: i111 :: i112 :: i113 :: i114 :: i115 :: i116 :: i117 :: i118 :: i119 :: i120 :: i121 :: i122 :: i123 :: i124 :: i125 :: i126 :: i127 :: i128 :: i129 :: i130 :: i131 :: i132 :: i133 :: i134 :: i135 :: i136 :: i137 :: i138 :: i139 :: i140 :: i141 :: i142 :: i143 :: i144 :: i145 :: i146 :: i147 :: i148 :: i149 :: i150 :: i151 :: i152 :: i153 :: i154 :: i155 :: i156 :: i157 :: i158 :: i159 :: i160 :: i161 :: i162 :: i163 :: i164 :: i165 :: i166 :: i167 :: i168 :: i169 :: i170 :: i171 :: i172 :: i173 :: i174 :: i175 :: i176 :: i177 :: i178 :: i179 :: i180 :: i181 :: i182 :: i183 :: i184 :: i185 :: i186 :: i187 :: i188 :: i189 :: i190 :: i191 :: i192 :: i193 :: i194 :: i195 :: i196 :: i197 :: i198 :: i199 :: i200 :: i201 :: i202 :: i203 :: i204 :: i205 :: i206 :: i207 :: i208 :: i209 :: i210 :: i211 :: i212 :: c213 :: c214 :: c215 :: c216 :: c217 :: c218 :: c219 :: c220 :: c221 :: c222 :: c223 :: c224 :: c225 :: c226 :: c227 :: c228 :: c229 :: c230 :: c231 :: c232 :: c233 :: c234 :: c235 :: c236 :: c237 :: c238 :: c239 :: c240 :: c241 :: c242 :: c243 :: c244 :: c245 :: c246 :: c247 :: c248 :: c249 :: c250 :: []).toArray, []⟩ w := by
  conv => arg 2; whnf
  have hbo := bothTerm_any w
  go_wp2_with fail
  refine hbo.mono ?_
  rintro e w1 ⟨p, q1, q2, rfl, hp1, hp2, hP, hq1, hq2, b⟩
  clear hbo
  obtain ⟨f1, hf1⟩ : ∃ f, f = frT 1 4 := ⟨_, rfl⟩
  obtain ⟨f2, hf2⟩ : ∃ f, f = frT 2 7 := ⟨_, rfl⟩
  obtain ⟨f3, hf3⟩ : ∃ f, f = frT 3 10 := ⟨_, rfl⟩
  obtain ⟨f4, hf4⟩ : ∃ f, f = frT 4 13 := ⟨_, rfl⟩
  have HF1 : Hid (f1 = frT 1 4) := hf1
  have HF2 : Hid (f2 = frT 2 7) := hf2
  have HF3 : Hid (f3 = frT 3 10) := hf3
  have HF4 : Hid (f4 = frT 4 13) := hf4
  have s1 : f1.size = 16 := by rw [hf1, frT_size]
  have s3 : f3.size = 16 := by rw [hf3, frT_size]
  have hpre : ((f1.extract 0 8).toList == [0, 0, 0, 0, 0, 0, 0, 1]) = true := by
    rw [hf1, frT, (frame_parts (num8 1) _ (num8_length 1)).1, Lib.toList_data, bs_list]
    decide
  have hmin : min (f1.size : Int) 8 = 8 := by omega
  have S1 : Hid (f1.size = 16) := s1
  have S3 : Hid (f3.size = 16) := s3
  clear hf1 hf2 hf3 hf4 s1 s3
  have hs := sealKT w1 w.heap.size p 0 q1 0 0 twoT wR5 4 120 hP (by decide) (by omega) (by omega) hq1 (by omega) 1 rfl f1 HF1.out r1
  go_wp2_with fail
  refine hs.mono ?_
  rintro e w2 ⟨rfl, hP', hq1', hk⟩
  clear hs
  have hq2' := hk.2 _ _ _ (by omega) hq2 ⟨by decide, by decide, by decide, by decide⟩
  have b' := b.trans hk.1
  clear hP hq1 hq2 b hk
  have hP := hP'
  have hq1 := hq1'
  have hq2 := hq2'
  have b := b'
  clear hP' hq1' hq2' b'
  have hs := sealKT w2 w.heap.size p 1 q1 1 0 wR5 kT2 7 121 hP (by decide) (by omega) (by omega) hq1 (by omega) 2 rfl f2 HF2.out kq2
  go_wp2_with fail
  refine hs.mono ?_
  rintro e w3 ⟨rfl, hP', hq1', hk⟩
  clear hs
  have hq2' := hk.2 _ _ _ (by omega) hq2 ⟨by decide, by decide, by decide, by decide⟩
  have b' := b.trans hk.1
  clear hP hq1 hq2 b hk
  have hP := hP'
  have hq1 := hq1'
  have hq2 := hq2'
  have b := b'
  clear hP' hq1' hq2' b'
  have hs := takeKT_yes w3 w.heap.size p 2 q2 0 2 7 5 6 kT2 121 hP (by decide) (by omega) (by omega) hq2 (by omega) (by omega) kn2.1 rfl kn2.2.1 rfl kn2.2.2 rfl rfl f2 HF2.out
  go_wp2_with fail
  refine hs.mono ?_
  rintro e w4 ⟨rfl, hP', hq2', hk⟩
  clear hs
  have hq1' := hk.2 _ _ _ (by omega) hq1 ⟨by decide, by decide, by decide, by decide⟩
  have b' := b.trans hk.1
  clear hP hq1 hq2 b hk
  have hP := hP'
  have hq1 := hq1'
  have hq2 := hq2'
  have b := b'
  clear hP' hq1' hq2' b'
  have hs := takeKT_stale w4 q2 p 2 1 4 (bs (textL 1)) (bs (textL 0)) hq2 (by omega) (by omega) f1 HF1.out
  go_wp2_with fail
  refine hs.mono ?_
  rintro e w5 ⟨rfl, hk⟩
  clear hs
  have hP' := hP.later hk
  have hq1' := hq1.later hk
  have hq2' := hq2.later hk
  have b' := b.trans (hk.mono b.size)
  clear hP hq1 hq2 b hk
  have hP := hP'
  have hq1 := hq1'
  have hq2 := hq2'
  have b := b'
  clear hP' hq1' hq2' b'
  have hs := takeKT_stale w5 q2 p 2 2 7 (bs (textL 1)) (bs (textL 0)) hq2 (by omega) (by omega) f2 HF2.out
  go_wp2_with fail
  refine hs.mono ?_
  rintro e w6 ⟨rfl, hk⟩
  clear hs
  have hP' := hP.later hk
  have hq1' := hq1.later hk
  have hq2' := hq2.later hk
  have b' := b.trans (hk.mono b.size)
  clear hP hq1 hq2 b hk
  have hP := hP'
  have hq1 := hq1'
  have hq2 := hq2'
  have b := b'
  clear hP' hq1' hq2' b'
  have hs := recSent_any w6 q1 p 2 0 (bs (textL 0)) (bs (textL 1)) hq1
  have hs2 := recSeen_any w6 q2 p 0 2 (bs (textL 1)) (bs (textL 0)) hq2
  have s1 : 8 ≤ (f1.size : Int) := by have := S1.out; omega
  go_wp2_with fail
  refine hs.mono ?_
  rintro e w' ⟨rfl, hw⟩
  rw [hw]
  clear hw w' hs
  go_wp2_with fail
  refine hs2.mono ?_
  rintro e w' ⟨rfl, hw⟩
  rw [hw]
  clear hw w' hs2
  have hs := sealKT w6 w.heap.size p 3 q1 2 0 kT2 kT3 10 122 hP (by decide) (by omega) (by omega) hq1 (by omega) 3 rfl f3 HF3.out kq3
  go_wp2_with fail
  refine hs.mono ?_
  rintro e w7 ⟨rfl, hP', hq1', hk⟩
  clear hs
  have hq2' := hk.2 _ _ _ (by omega) hq2 ⟨by decide, by decide, by decide, by decide⟩
  have b' := b.trans hk.1
  clear hP hq1 hq2 b hk
  have hP := hP'
  have hq1 := hq1'
  have hq2 := hq2'
  have b := b'
  clear hP' hq1' hq2' b'
  have hcv := Lib.run_convert_string_bytes (P := Tryz.prog) w7 9 30 5 f3 Tryz.underlying9 Tryz.underlying30 Tryz.underlying5
  have bB := bytesWorld_below w7 5 f3
  have Cb := Lib.bytesWorld_cell w7 5 f3 15 (by have := S3.out; omega)
  have Fb := bytesWorld_free w7 5 f3 15 (by have := S3.out; omega)
  have hset := bytesWorld_set w7 5 f3 15
  obtain ⟨cB, hcB⟩ : ∃ cB, cB = grownCap w7 f3.size 0 5 := ⟨_, rfl⟩
  rw [← hcB, S3.out] at hcv
  clear hcB
  obtain ⟨by0, hby0⟩ : ∃ b : Nat, b = (f3.data.toList.getD 15 0).toNat := ⟨_, rfl⟩
  rw [← hby0] at Cb
  have hby1 : by0 < 256 := by rw [hby0]; exact (f3.data.toList.getD 15 0).toNat_lt
  have HBY : Hid (by0 = (f3.data.toList.getD 15 0).toNat) := hby0
  clear hby0
  obtain ⟨wB, hwB⟩ : ∃ wB, wB = Lib.bytesWorld w7 5 f3 := ⟨_, rfl⟩
  rw [← hwB] at bB Cb Fb hset hcv
  clear hwB
  obtain ⟨xr, hxr⟩ : ∃ xr, xr = xor8 (by0 : Int) (1 : Int) := ⟨_, rfl⟩
  have hxr1 : 0 ≤ xr ∧ xr < 256 := by rw [hxr]; exact xor8_in _ _
  clear hpre hmin s1
  go_upto_region 19 with (fail)
  rw [show bits BinOp.xor IntKind.u8 (by0 : Int) (1 : Int) = xr from hxr.symm]
  obtain ⟨lt, hlt⟩ : ∃ lt, lt = f3.data.toList.set 15 xr.toNat.toUInt8 := ⟨_, rfl⟩
  have hltl : lt.length = 16 := by rw [hlt, List.length_set]; exact S3.out
  have hset2 := hset xr hxr1
  rw [← hlt] at hset2
  have hcv2 := run_convert_bytes_back (P := Tryz.prog) (wB.setCell ⟨w7.heap.size, 15, none⟩ (.int .u8 xr)) 30 9 5 ⟨w7.heap.size, 0, none⟩ cB lt Tryz.underlying30 Tryz.underlying5 Tryz.underlying9 (fun j hj => by rw [addr_add, Nat.zero_add]; exact hset2 j hj)
  rw [hltl] at hcv2
  have hltf : (⟨lt.toArray⟩ : ByteArray) = frT 3 11 := by
    have hb10 : by0 = 10 := by rw [HBY.out, HF3.out]; decide
    have hx11 : xr = 11 := by rw [hxr, hb10]; decide
    rw [hlt, hx11, HF3.out]
    decide
  have bC : Below w7.heap.size w7 (wB.setCell ⟨w7.heap.size, 15, none⟩ (.int .u8 xr)) := bB.setCell (by show w7.heap.size ≤ w7.heap.size; omega) _
  clear hset hset2 hltl hcv Cb Fb bB hxr1 hxr
  generalize (wB.setCell ⟨w7.heap.size, 15, none⟩ (.int .u8 xr)) = wC at hcv2 bC ⊢
  clear HBY hby1 wB
  have hP' := hP.later bC
  have hq1' := hq1.later bC
  have hq2' := hq2.later bC
  have b' := b.trans (bC.mono b.size)
  clear hP hq1 hq2 b bC
  have hP := hP'
  have hq1 := hq1'
  have hq2 := hq2'
  have b := b'
  clear hP' hq1' hq2' b'
  have hs := takeKT_none wC w.heap.size p 4 q2 2 3 11 kT3 (bs (textL 1)) (bs (textL 0)) hP (by decide) hq2 (by omega) (by omega) kn3.2.2.2 ⟨lt.toArray⟩ hltf
  clear hlt hltf
  go_wp2_with fail
  refine hs.mono ?_
  rintro e w8 ⟨rfl, hk⟩
  clear hs
  have hP' := hP.later hk
  have hq1' := hq1.later hk
  have hq2' := hq2.later hk
  have b' := b.trans (hk.mono b.size)
  clear hP hq1 hq2 b hk
  have hP := hP'
  have hq1 := hq1'
  have hq2 := hq2'
  have b := b'
  clear hP' hq1' hq2' b'
  clear hcv2
  have hs := takeKT_yes w8 w.heap.size p 4 q2 2 3 10 8 9 kT3 122 hP (by decide) (by omega) (by omega) hq2 (by omega) (by omega) kn3.1 rfl kn3.2.1 rfl kn3.2.2.1 rfl rfl f3 HF3.out
  go_wp2_with fail
  refine hs.mono ?_
  rintro e w9 ⟨rfl, hP', hq2', hk⟩
  clear hs
  have hq1' := hk.2 _ _ _ (by omega) hq1 ⟨by decide, by decide, by decide, by decide⟩
  have b' := b.trans hk.1
  clear hP hq1 hq2 b hk
  have hP := hP'
  have hq1 := hq1'
  have hq2 := hq2'
  have b := b'
  clear hP' hq1' hq2' b'
  have hs := recTake_short w9 q2 p 0 3 (bs (textL 1)) (bs (textL 0)) ⟨#[49, 50, 51, 52, 53, 54, 55]⟩ hq2 (by decide)
  go_wp2_with fail
  refine hs.mono ?_
  rintro e w10 ⟨rfl, hk⟩
  clear hs
  have hP' := hP.later hk
  have hq1' := hq1.later hk
  have hq2' := hq2.later hk
  have b' := b.trans (hk.mono b.size)
  clear hP hq1 hq2 b hk
  have hP := hP'
  have hq1 := hq1'
  have hq2 := hq2'
  have b := b'
  clear hP' hq1' hq2' b'
  have hmk : (Instr.makeSlice 30 (.int .i64 16385) (.int .i64 16385)).run Tryz.prog w10 = .ok (.slice (some ⟨w10.heap.size, 0, none⟩) 16385 16385) (zerosW w10 16385) := zerosW_make w10 16385 (by omega)
  have hcv := zerosW_conv w10 16385
  have hzb := zerosW_below w10 16385
  obtain ⟨zs, hzs⟩ : ∃ zs, zs = bs (List.replicate 16385 (0 : UInt8)) := ⟨_, rfl⟩
  have hzl : 16384 < zs.size := by rw [hzs, bs_size, List.length_replicate]; omega
  rw [← hzs] at hcv
  clear hzs
  obtain ⟨wz, hwz⟩ : ∃ wz, wz = zerosW w10 16385 := ⟨_, rfl⟩
  rw [← hwz] at hmk hcv hzb
  clear hwz
  have hs := sealKT_long wz w.heap.size p 5 q1 3 0 kT3 zs (bs (textL 0)) (bs (textL 1)) hzl (hP.later hzb) (hq1.later hzb) (by omega)
  have hzb2 := hzb.size
  go_wp2_with fail
  refine hs.mono ?_
  rintro e w11 ⟨rfl, hk⟩
  clear hs hmk hcv
  have hk' := Below.step hzb hk
  clear hzb hk hzb2
  have hP' := hP.later hk'
  have hq1' := hq1.later hk'
  have hq2' := hq2.later hk'
  have b' := b.trans (hk'.mono b.size)
  clear hP hq1 hq2 b hk'
  have hP := hP'
  have hq1 := hq1'
  have hq2 := hq2'
  have b := b'
  clear hP' hq1' hq2' b'
  have hs := recSent_any w11 q1 p 3 0 (bs (textL 0)) (bs (textL 1)) hq1
  go_wp2_with fail
  refine hs.mono ?_
  rintro e w' ⟨rfl, hw⟩
  rw [hw]
  clear hw w' hs
  have hs := recCopy_any w11 q2 p p 0 3 (bs (textL 1)) (bs (textL 0)) hq2
  go_wp2_with fail
  refine hs.mono ?_
  rintro e w12 ⟨rfl, hc, hk⟩
  clear hs
  have hlt := hq2.lt
  have hP' := hP.later hk
  have hq1' := hq1.later hk
  have hq2' := hq2.later hk
  have b' := b.trans (hk.mono b.size)
  have hsz := b.size
  clear hP hq1 hq2 b hk
  have hP := hP'
  have hq1 := hq1'
  have hq2 := hq2'
  have b := b'
  clear hP' hq1' hq2' b'
  have hs := recSeen_any w12 w11.heap.size p 0 3 (bs (textL 1)) (bs (textL 0)) hc
  go_wp2_with fail
  refine hs.mono ?_
  rintro e w' ⟨rfl, hw⟩
  rw [hw]
  clear hw w' hs
  have hs := recCopy_nil w12 q2 p 0 3 (bs (textL 1)) (bs (textL 0)) hq2
  go_wp2_with fail
  refine hs.mono ?_
  rintro e w' ⟨rfl, hw⟩
  rw [hw]
  clear hw w' hs
  have hs := sealKT w12 w.heap.size p 5 q1 3 0 kT3 kT4 13 119 hP (by decide) (by omega) (by omega) hq1 (by omega) 4 rfl f4 HF4.out kq4
  go_wp2_with fail
  refine hs.mono ?_
  rintro e w13 ⟨rfl, hP', hq1', hk⟩
  clear hs
  have hq2' := hk.2 _ _ _ (by omega) hq2 ⟨by decide, by decide, by decide, by decide⟩
  have hc' := hk.2 _ _ _ (by omega) hc ⟨by decide, by decide, by decide, by decide⟩
  have b' := b.trans hk.1
  clear hP hq1 hq2 hc b hk
  have hs := takeKT_yes w13 w.heap.size p 6 w11.heap.size 3 4 13 11 12 kT4 119 hP' (by decide) (by omega) (by omega) hc' (by omega) (by omega) kn4.1 rfl kn4.2.1 rfl kn4.2.2 rfl rfl f4 HF4.out
  go_wp2_with fail
  refine hs.mono ?_
  rintro e w14 ⟨rfl, hP'', hc'', hk⟩
  clear hs
  have hq2'' := hk.2 _ _ _ (by omega) hq2' ⟨by decide, by decide, by decide, by decide⟩
  have b'' := b'.trans hk.1
  clear hP' hq1' hq2' hc' b' hk hc''
  have hs := recSeen_any w14 q2 p 0 3 (bs (textL 1)) (bs (textL 0)) hq2''
  go_wp2_with fail
  refine hs.mono ?_
  rintro e w' ⟨rfl, hw⟩
  rw [hw]
  clear hw w' hs
  go_wp2
  exact b''
end Go.Proofs.YtipehnojibdfeaaGreat
