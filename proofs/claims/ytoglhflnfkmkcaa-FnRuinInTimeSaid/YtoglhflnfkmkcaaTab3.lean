/- What the law answers at what may be drawn, reckoned. No condition. -/
import Derived.Test.YtoglhflnfkmkcaaHalf
namespace Go.Proofs.Ytoglhflnfkmkcaa.Pure
open Go.RowKit Go.Proofs.Ytoglhflnfkmkcaa.Stub Go.Proofs.Ytoglhflnfkmkcaa.OFnRuinInTime Go.Proofs.YtoglhflnfkmkcaaW.PrintWords Go.Proofs.YtoglhflnfkmkcaaW.PrintLast
set_option linter.unusedVariables false
set_option linter.unusedSimpArgs false
set_option maxRecDepth 100000 in
theorem ta_1_6 : HX.all (fun p => Ga.all fun n => H.f (Cn 601) 1400 (p.1, p.2, 1, 6, n) == some true) = true := by decide +kernel
set_option maxRecDepth 100000 in
theorem tb_1_6 : HX.all (fun p => Gb.all fun n => H.f (Cn 601) 1400 (p.1, p.2, 1, 6, n) == some true) = true := by decide +kernel
set_option maxRecDepth 100000 in
theorem tc_1_6 : HX.all (fun p => Gc.all fun n => H.f (Cn 601) 1400 (p.1, p.2, 1, 6, n) == some true) = true := by decide +kernel
set_option maxRecDepth 100000 in
theorem td_1_6 : HX.all (fun p => Gd.all fun n => H.f (Cn 601) 1400 (p.1, p.2, 1, 6, n) == some true) = true := by decide +kernel
set_option maxRecDepth 100000 in
theorem te_1_6 : HX.all (fun p => Ge.all fun n => H.f (Cn 601) 1400 (p.1, p.2, 1, 6, n) == some true) = true := by decide +kernel
set_option maxRecDepth 100000 in
theorem tf_1_6 : HX.all (fun p => Gf.all fun n => H.f (Cn 601) 1400 (p.1, p.2, 1, 6, n) == some true) = true := by decide +kernel
set_option maxRecDepth 100000 in
theorem tg0_1_6 : HX0.all (fun p => Gg.all fun n => H.f (Cn 601) 1400 (p.1, p.2, 1, 6, n) == some true) = true := by decide +kernel
set_option maxRecDepth 100000 in
theorem tg1_1_6 : HX1.all (fun p => Gg.all fun n => H.f (Cn 601) 1400 (p.1, p.2, 1, 6, n) == some true) = true := by decide +kernel
theorem tabH_1_6 : HX.all (fun p => GX.all fun n => H.f (Cn 601) 1400 (p.1, p.2, 1, 6, n) == some true) = true :=
  glue _ ta_1_6 tb_1_6 tc_1_6 td_1_6 te_1_6 tf_1_6 tg0_1_6 tg1_1_6
set_option maxRecDepth 100000 in
theorem ta_5_6 : HX.all (fun p => Ga.all fun n => H.f (Cn 601) 1400 (p.1, p.2, 5, 6, n) == some true) = true := by decide +kernel
set_option maxRecDepth 100000 in
theorem tb_5_6 : HX.all (fun p => Gb.all fun n => H.f (Cn 601) 1400 (p.1, p.2, 5, 6, n) == some true) = true := by decide +kernel
set_option maxRecDepth 100000 in
theorem tc_5_6 : HX.all (fun p => Gc.all fun n => H.f (Cn 601) 1400 (p.1, p.2, 5, 6, n) == some true) = true := by decide +kernel
set_option maxRecDepth 100000 in
theorem td_5_6 : HX.all (fun p => Gd.all fun n => H.f (Cn 601) 1400 (p.1, p.2, 5, 6, n) == some true) = true := by decide +kernel
set_option maxRecDepth 100000 in
theorem te_5_6 : HX.all (fun p => Ge.all fun n => H.f (Cn 601) 1400 (p.1, p.2, 5, 6, n) == some true) = true := by decide +kernel
set_option maxRecDepth 100000 in
theorem tf_5_6 : HX.all (fun p => Gf.all fun n => H.f (Cn 601) 1400 (p.1, p.2, 5, 6, n) == some true) = true := by decide +kernel
set_option maxRecDepth 100000 in
theorem tg0_5_6 : HX0.all (fun p => Gg.all fun n => H.f (Cn 601) 1400 (p.1, p.2, 5, 6, n) == some true) = true := by decide +kernel
set_option maxRecDepth 100000 in
theorem tg1_5_6 : HX1.all (fun p => Gg.all fun n => H.f (Cn 601) 1400 (p.1, p.2, 5, 6, n) == some true) = true := by decide +kernel
theorem tabH_5_6 : HX.all (fun p => GX.all fun n => H.f (Cn 601) 1400 (p.1, p.2, 5, 6, n) == some true) = true :=
  glue _ ta_5_6 tb_5_6 tc_5_6 td_5_6 te_5_6 tf_5_6 tg0_5_6 tg1_5_6
def OX : List (Int × Int) := (([0, 1, 2, 3, (-1), 4611686018427387904] : List Int).flatMap (fun a => ([0, 1, 2, 4, 7, (-1)] : List Int).map fun b => (a, b))).filter fun q => !([(1, 2), (1, 4), (3, 4)] : List (Int × Int)).contains q
set_option maxRecDepth 100000 in
theorem o0 : ((OX.drop 0).take 4).all (fun q => HX.all fun p => GX.all fun n => H.f (Cn 601) 1400 (p.1, p.2, q.1, q.2, n) == some true) = true := by decide +kernel
set_option maxRecDepth 100000 in
theorem o1 : ((OX.drop 4).take 4).all (fun q => HX.all fun p => GX.all fun n => H.f (Cn 601) 1400 (p.1, p.2, q.1, q.2, n) == some true) = true := by decide +kernel
set_option maxRecDepth 100000 in
theorem o2 : ((OX.drop 8).take 4).all (fun q => HX.all fun p => GX.all fun n => H.f (Cn 601) 1400 (p.1, p.2, q.1, q.2, n) == some true) = true := by decide +kernel
set_option maxRecDepth 100000 in
theorem o3 : ((OX.drop 12).take 4).all (fun q => HX.all fun p => GX.all fun n => H.f (Cn 601) 1400 (p.1, p.2, q.1, q.2, n) == some true) = true := by decide +kernel
set_option maxRecDepth 100000 in
theorem o4 : ((OX.drop 16).take 4).all (fun q => HX.all fun p => GX.all fun n => H.f (Cn 601) 1400 (p.1, p.2, q.1, q.2, n) == some true) = true := by decide +kernel
set_option maxRecDepth 100000 in
theorem o5 : ((OX.drop 20).take 4).all (fun q => HX.all fun p => GX.all fun n => H.f (Cn 601) 1400 (p.1, p.2, q.1, q.2, n) == some true) = true := by decide +kernel
set_option maxRecDepth 100000 in
theorem o6 : ((OX.drop 24).take 4).all (fun q => HX.all fun p => GX.all fun n => H.f (Cn 601) 1400 (p.1, p.2, q.1, q.2, n) == some true) = true := by decide +kernel
set_option maxRecDepth 100000 in
theorem o7 : ((OX.drop 28).take 4).all (fun q => HX.all fun p => GX.all fun n => H.f (Cn 601) 1400 (p.1, p.2, q.1, q.2, n) == some true) = true := by decide +kernel
set_option maxRecDepth 100000 in
theorem o8 : ((OX.drop 32).take 4).all (fun q => HX.all fun p => GX.all fun n => H.f (Cn 601) 1400 (p.1, p.2, q.1, q.2, n) == some true) = true := by decide +kernel
theorem cut4 (f : Int × Int → Bool) (L : List (Int × Int)) (h : (L.take 4).all f = true) (k : (L.drop 4).all f = true) : L.all f = true := by rw [← List.take_append_drop 4 L, List.all_append, h, k]; rfl
theorem tabO : OX.all (fun q => HX.all fun p => GX.all fun n => H.f (Cn 601) 1400 (p.1, p.2, q.1, q.2, n) == some true) = true :=
  cut4 _ _ o0 (cut4 _ _ o1 (cut4 _ _ o2 (cut4 _ _ o3 (cut4 _ _ o4 (cut4 _ _ o5 (cut4 _ _ o6 (cut4 _ _ o7 (cut4 _ _ o8 (by decide)))))))))
set_option maxRecDepth 100000 in
theorem sa : Ga.all (fun n => HX.all fun p => S.f 600 (p.1, p.2, n) == some true) = true := by decide +kernel
set_option maxRecDepth 100000 in
theorem sb : Gb.all (fun n => HX.all fun p => S.f 600 (p.1, p.2, n) == some true) = true := by decide +kernel
set_option maxRecDepth 100000 in
theorem sc : Gc.all (fun n => HX.all fun p => S.f 600 (p.1, p.2, n) == some true) = true := by decide +kernel
set_option maxRecDepth 100000 in
theorem sd : Gd.all (fun n => HX.all fun p => S.f 600 (p.1, p.2, n) == some true) = true := by decide +kernel
set_option maxRecDepth 100000 in
theorem se : Ge.all (fun n => HX.all fun p => S.f 600 (p.1, p.2, n) == some true) = true := by decide +kernel
set_option maxRecDepth 100000 in
theorem sf : Gf.all (fun n => HX.all fun p => S.f 600 (p.1, p.2, n) == some true) = true := by decide +kernel
set_option maxRecDepth 100000 in
theorem sg : Gg.all (fun n => HX.all fun p => S.f 600 (p.1, p.2, n) == some true) = true := by decide +kernel
theorem tabS : GX.all (fun n => HX.all fun p => S.f 600 (p.1, p.2, n) == some true) = true := glueS _ sa sb sc sd se sf sg
end Go.Proofs.Ytoglhflnfkmkcaa.Pure
