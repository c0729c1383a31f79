/- What the law answers at what may be drawn, reckoned. No condition. -/
import Derived.Test.YtoglhflnfkmkcaaHalf
namespace Go.Proofs.Ytoglhflnfkmkcaa.Pure
open Go.RowKit Go.Proofs.Ytoglhflnfkmkcaa.Stub Go.Proofs.Ytoglhflnfkmkcaa.OFnRuinInTime Go.Proofs.YtoglhflnfkmkcaaW.PrintWords Go.Proofs.YtoglhflnfkmkcaaW.PrintLast
set_option linter.unusedVariables false
set_option linter.unusedSimpArgs false
set_option maxRecDepth 100000 in
theorem ta_1_4 : HX.all (fun p => Ga.all fun n => H.f (Cn 601) 1400 (p.1, p.2, 1, 4, n) == some true) = true := by decide +kernel
set_option maxRecDepth 100000 in
theorem tb_1_4 : HX.all (fun p => Gb.all fun n => H.f (Cn 601) 1400 (p.1, p.2, 1, 4, n) == some true) = true := by decide +kernel
set_option maxRecDepth 100000 in
theorem tc_1_4 : HX.all (fun p => Gc.all fun n => H.f (Cn 601) 1400 (p.1, p.2, 1, 4, n) == some true) = true := by decide +kernel
set_option maxRecDepth 100000 in
theorem td_1_4 : HX.all (fun p => Gd.all fun n => H.f (Cn 601) 1400 (p.1, p.2, 1, 4, n) == some true) = true := by decide +kernel
set_option maxRecDepth 100000 in
theorem te_1_4 : HX.all (fun p => Ge.all fun n => H.f (Cn 601) 1400 (p.1, p.2, 1, 4, n) == some true) = true := by decide +kernel
set_option maxRecDepth 100000 in
theorem tf_1_4 : HX.all (fun p => Gf.all fun n => H.f (Cn 601) 1400 (p.1, p.2, 1, 4, n) == some true) = true := by decide +kernel
set_option maxRecDepth 100000 in
theorem tg0_1_4 : HX0.all (fun p => Gg.all fun n => H.f (Cn 601) 1400 (p.1, p.2, 1, 4, n) == some true) = true := by decide +kernel
set_option maxRecDepth 100000 in
theorem tg1_1_4 : HX1.all (fun p => Gg.all fun n => H.f (Cn 601) 1400 (p.1, p.2, 1, 4, n) == some true) = true := by decide +kernel
theorem tabH_1_4 : HX.all (fun p => GX.all fun n => H.f (Cn 601) 1400 (p.1, p.2, 1, 4, n) == some true) = true :=
  glue _ ta_1_4 tb_1_4 tc_1_4 td_1_4 te_1_4 tf_1_4 tg0_1_4 tg1_1_4
set_option maxRecDepth 100000 in
theorem ta_3_4 : HX.all (fun p => Ga.all fun n => H.f (Cn 601) 1400 (p.1, p.2, 3, 4, n) == some true) = true := by decide +kernel
set_option maxRecDepth 100000 in
theorem tb_3_4 : HX.all (fun p => Gb.all fun n => H.f (Cn 601) 1400 (p.1, p.2, 3, 4, n) == some true) = true := by decide +kernel
set_option maxRecDepth 100000 in
theorem tc_3_4 : HX.all (fun p => Gc.all fun n => H.f (Cn 601) 1400 (p.1, p.2, 3, 4, n) == some true) = true := by decide +kernel
set_option maxRecDepth 100000 in
theorem td_3_4 : HX.all (fun p => Gd.all fun n => H.f (Cn 601) 1400 (p.1, p.2, 3, 4, n) == some true) = true := by decide +kernel
set_option maxRecDepth 100000 in
theorem te_3_4 : HX.all (fun p => Ge.all fun n => H.f (Cn 601) 1400 (p.1, p.2, 3, 4, n) == some true) = true := by decide +kernel
set_option maxRecDepth 100000 in
theorem tf_3_4 : HX.all (fun p => Gf.all fun n => H.f (Cn 601) 1400 (p.1, p.2, 3, 4, n) == some true) = true := by decide +kernel
set_option maxRecDepth 100000 in
theorem tg0_3_4 : HX0.all (fun p => Gg.all fun n => H.f (Cn 601) 1400 (p.1, p.2, 3, 4, n) == some true) = true := by decide +kernel
set_option maxRecDepth 100000 in
theorem tg1_3_4 : HX1.all (fun p => Gg.all fun n => H.f (Cn 601) 1400 (p.1, p.2, 3, 4, n) == some true) = true := by decide +kernel
theorem tabH_3_4 : HX.all (fun p => GX.all fun n => H.f (Cn 601) 1400 (p.1, p.2, 3, 4, n) == some true) = true :=
  glue _ ta_3_4 tb_3_4 tc_3_4 td_3_4 te_3_4 tf_3_4 tg0_3_4 tg1_3_4
set_option maxRecDepth 100000 in
theorem ta_1_5 : HX.all (fun p => Ga.all fun n => H.f (Cn 601) 1400 (p.1, p.2, 1, 5, n) == some true) = true := by decide +kernel
set_option maxRecDepth 100000 in
theorem tb_1_5 : HX.all (fun p => Gb.all fun n => H.f (Cn 601) 1400 (p.1, p.2, 1, 5, n) == some true) = true := by decide +kernel
set_option maxRecDepth 100000 in
theorem tc_1_5 : HX.all (fun p => Gc.all fun n => H.f (Cn 601) 1400 (p.1, p.2, 1, 5, n) == some true) = true := by decide +kernel
set_option maxRecDepth 100000 in
theorem td_1_5 : HX.all (fun p => Gd.all fun n => H.f (Cn 601) 1400 (p.1, p.2, 1, 5, n) == some true) = true := by decide +kernel
set_option maxRecDepth 100000 in
theorem te_1_5 : HX.all (fun p => Ge.all fun n => H.f (Cn 601) 1400 (p.1, p.2, 1, 5, n) == some true) = true := by decide +kernel
set_option maxRecDepth 100000 in
theorem tf_1_5 : HX.all (fun p => Gf.all fun n => H.f (Cn 601) 1400 (p.1, p.2, 1, 5, n) == some true) = true := by decide +kernel
set_option maxRecDepth 100000 in
theorem tg0_1_5 : HX0.all (fun p => Gg.all fun n => H.f (Cn 601) 1400 (p.1, p.2, 1, 5, n) == some true) = true := by decide +kernel
set_option maxRecDepth 100000 in
theorem tg1_1_5 : HX1.all (fun p => Gg.all fun n => H.f (Cn 601) 1400 (p.1, p.2, 1, 5, n) == some true) = true := by decide +kernel
theorem tabH_1_5 : HX.all (fun p => GX.all fun n => H.f (Cn 601) 1400 (p.1, p.2, 1, 5, n) == some true) = true :=
  glue _ ta_1_5 tb_1_5 tc_1_5 td_1_5 te_1_5 tf_1_5 tg0_1_5 tg1_1_5
end Go.Proofs.Ytoglhflnfkmkcaa.Pure
