/- What the law answers at what may be drawn, reckoned. No condition. -/
import Derived.Test.YtoglhflnfkmkcaaHalf
namespace Go.Proofs.Ytoglhflnfkmkcaa.Pure
open Go.RowKit Go.Proofs.Ytoglhflnfkmkcaa.Stub Go.Proofs.Ytoglhflnfkmkcaa.OFnRuinInTime Go.Proofs.YtoglhflnfkmkcaaW.PrintWords Go.Proofs.YtoglhflnfkmkcaaW.PrintLast
set_option linter.unusedVariables false
set_option linter.unusedSimpArgs false
set_option maxRecDepth 100000 in
theorem ta_2_5 : HX.all (fun p => Ga.all fun n => H.f (Cn 601) 1400 (p.1, p.2, 2, 5, n) == some true) = true := by decide +kernel
set_option maxRecDepth 100000 in
theorem tb_2_5 : HX.all (fun p => Gb.all fun n => H.f (Cn 601) 1400 (p.1, p.2, 2, 5, n) == some true) = true := by decide +kernel
set_option maxRecDepth 100000 in
theorem tc_2_5 : HX.all (fun p => Gc.all fun n => H.f (Cn 601) 1400 (p.1, p.2, 2, 5, n) == some true) = true := by decide +kernel
set_option maxRecDepth 100000 in
theorem td_2_5 : HX.all (fun p => Gd.all fun n => H.f (Cn 601) 1400 (p.1, p.2, 2, 5, n) == some true) = true := by decide +kernel
set_option maxRecDepth 100000 in
theorem te_2_5 : HX.all (fun p => Ge.all fun n => H.f (Cn 601) 1400 (p.1, p.2, 2, 5, n) == some true) = true := by decide +kernel
set_option maxRecDepth 100000 in
theorem tf_2_5 : HX.all (fun p => Gf.all fun n => H.f (Cn 601) 1400 (p.1, p.2, 2, 5, n) == some true) = true := by decide +kernel
set_option maxRecDepth 100000 in
theorem tg0_2_5 : HX0.all (fun p => Gg.all fun n => H.f (Cn 601) 1400 (p.1, p.2, 2, 5, n) == some true) = true := by decide +kernel
set_option maxRecDepth 100000 in
theorem tg1_2_5 : HX1.all (fun p => Gg.all fun n => H.f (Cn 601) 1400 (p.1, p.2, 2, 5, n) == some true) = true := by decide +kernel
theorem tabH_2_5 : HX.all (fun p => GX.all fun n => H.f (Cn 601) 1400 (p.1, p.2, 2, 5, n) == some true) = true :=
  glue _ ta_2_5 tb_2_5 tc_2_5 td_2_5 te_2_5 tf_2_5 tg0_2_5 tg1_2_5
set_option maxRecDepth 100000 in
theorem ta_3_5 : HX.all (fun p => Ga.all fun n => H.f (Cn 601) 1400 (p.1, p.2, 3, 5, n) == some true) = true := by decide +kernel
set_option maxRecDepth 100000 in
theorem tb_3_5 : HX.all (fun p => Gb.all fun n => H.f (Cn 601) 1400 (p.1, p.2, 3, 5, n) == some true) = true := by decide +kernel
set_option maxRecDepth 100000 in
theorem tc_3_5 : HX.all (fun p => Gc.all fun n => H.f (Cn 601) 1400 (p.1, p.2, 3, 5, n) == some true) = true := by decide +kernel
set_option maxRecDepth 100000 in
theorem td_3_5 : HX.all (fun p => Gd.all fun n => H.f (Cn 601) 1400 (p.1, p.2, 3, 5, n) == some true) = true := by decide +kernel
set_option maxRecDepth 100000 in
theorem te_3_5 : HX.all (fun p => Ge.all fun n => H.f (Cn 601) 1400 (p.1, p.2, 3, 5, n) == some true) = true := by decide +kernel
set_option maxRecDepth 100000 in
theorem tf_3_5 : HX.all (fun p => Gf.all fun n => H.f (Cn 601) 1400 (p.1, p.2, 3, 5, n) == some true) = true := by decide +kernel
set_option maxRecDepth 100000 in
theorem tg0_3_5 : HX0.all (fun p => Gg.all fun n => H.f (Cn 601) 1400 (p.1, p.2, 3, 5, n) == some true) = true := by decide +kernel
set_option maxRecDepth 100000 in
theorem tg1_3_5 : HX1.all (fun p => Gg.all fun n => H.f (Cn 601) 1400 (p.1, p.2, 3, 5, n) == some true) = true := by decide +kernel
theorem tabH_3_5 : HX.all (fun p => GX.all fun n => H.f (Cn 601) 1400 (p.1, p.2, 3, 5, n) == some true) = true :=
  glue _ ta_3_5 tb_3_5 tc_3_5 td_3_5 te_3_5 tf_3_5 tg0_3_5 tg1_3_5
set_option maxRecDepth 100000 in
theorem ta_4_5 : HX.all (fun p => Ga.all fun n => H.f (Cn 601) 1400 (p.1, p.2, 4, 5, n) == some true) = true := by decide +kernel
set_option maxRecDepth 100000 in
theorem tb_4_5 : HX.all (fun p => Gb.all fun n => H.f (Cn 601) 1400 (p.1, p.2, 4, 5, n) == some true) = true := by decide +kernel
set_option maxRecDepth 100000 in
theorem tc_4_5 : HX.all (fun p => Gc.all fun n => H.f (Cn 601) 1400 (p.1, p.2, 4, 5, n) == some true) = true := by decide +kernel
set_option maxRecDepth 100000 in
theorem td_4_5 : HX.all (fun p => Gd.all fun n => H.f (Cn 601) 1400 (p.1, p.2, 4, 5, n) == some true) = true := by decide +kernel
set_option maxRecDepth 100000 in
theorem te_4_5 : HX.all (fun p => Ge.all fun n => H.f (Cn 601) 1400 (p.1, p.2, 4, 5, n) == some true) = true := by decide +kernel
set_option maxRecDepth 100000 in
theorem tf_4_5 : HX.all (fun p => Gf.all fun n => H.f (Cn 601) 1400 (p.1, p.2, 4, 5, n) == some true) = true := by decide +kernel
set_option maxRecDepth 100000 in
theorem tg0_4_5 : HX0.all (fun p => Gg.all fun n => H.f (Cn 601) 1400 (p.1, p.2, 4, 5, n) == some true) = true := by decide +kernel
set_option maxRecDepth 100000 in
theorem tg1_4_5 : HX1.all (fun p => Gg.all fun n => H.f (Cn 601) 1400 (p.1, p.2, 4, 5, n) == some true) = true := by decide +kernel
theorem tabH_4_5 : HX.all (fun p => GX.all fun n => H.f (Cn 601) 1400 (p.1, p.2, 4, 5, n) == some true) = true :=
  glue _ ta_4_5 tb_4_5 tc_4_5 td_4_5 te_4_5 tf_4_5 tg0_4_5 tg1_4_5
end Go.Proofs.Ytoglhflnfkmkcaa.Pure
