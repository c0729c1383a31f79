/- What the law answers at what may be drawn, reckoned. No condition. -/
import Derived.Test.YtoglhflnfkmkcaaHalf
namespace Go.Proofs.Ytoglhflnfkmkcaa.Pure
open Go.RowKit Go.Proofs.Ytoglhflnfkmkcaa.Stub Go.Proofs.Ytoglhflnfkmkcaa.OFnRuinInTime Go.Proofs.YtoglhflnfkmkcaaW.PrintWords Go.Proofs.YtoglhflnfkmkcaaW.PrintLast
set_option linter.unusedVariables false
set_option linter.unusedSimpArgs false
set_option maxRecDepth 100000 in
theorem ta_1_2 : HX.all (fun p => Ga.all fun n => H.f (Cn 601) 1400 (p.1, p.2, 1, 2, n) == some true) = true := by decide +kernel
set_option maxRecDepth 100000 in
theorem tb_1_2 : HX.all (fun p => Gb.all fun n => H.f (Cn 601) 1400 (p.1, p.2, 1, 2, n) == some true) = true := by decide +kernel
set_option maxRecDepth 100000 in
theorem tc_1_2 : HX.all (fun p => Gc.all fun n => H.f (Cn 601) 1400 (p.1, p.2, 1, 2, n) == some true) = true := by decide +kernel
set_option maxRecDepth 100000 in
theorem td_1_2 : HX.all (fun p => Gd.all fun n => H.f (Cn 601) 1400 (p.1, p.2, 1, 2, n) == some true) = true := by decide +kernel
set_option maxRecDepth 100000 in
theorem te_1_2 : HX.all (fun p => Ge.all fun n => H.f (Cn 601) 1400 (p.1, p.2, 1, 2, n) == some true) = true := by decide +kernel
set_option maxRecDepth 100000 in
theorem tf_1_2 : HX.all (fun p => Gf.all fun n => H.f (Cn 601) 1400 (p.1, p.2, 1, 2, n) == some true) = true := by decide +kernel
set_option maxRecDepth 100000 in
theorem tg0_1_2 : HX0.all (fun p => Gg.all fun n => H.f (Cn 601) 1400 (p.1, p.2, 1, 2, n) == some true) = true := by decide +kernel
set_option maxRecDepth 100000 in
theorem tg1_1_2 : HX1.all (fun p => Gg.all fun n => H.f (Cn 601) 1400 (p.1, p.2, 1, 2, n) == some true) = true := by decide +kernel
theorem tabH_1_2 : HX.all (fun p => GX.all fun n => H.f (Cn 601) 1400 (p.1, p.2, 1, 2, n) == some true) = true :=
  glue _ ta_1_2 tb_1_2 tc_1_2 td_1_2 te_1_2 tf_1_2 tg0_1_2 tg1_1_2
set_option maxRecDepth 100000 in
theorem ta_1_3 : HX.all (fun p => Ga.all fun n => H.f (Cn 601) 1400 (p.1, p.2, 1, 3, n) == some true) = true := by decide +kernel
set_option maxRecDepth 100000 in
theorem tb_1_3 : HX.all (fun p => Gb.all fun n => H.f (Cn 601) 1400 (p.1, p.2, 1, 3, n) == some true) = true := by decide +kernel
set_option maxRecDepth 100000 in
theorem tc_1_3 : HX.all (fun p => Gc.all fun n => H.f (Cn 601) 1400 (p.1, p.2, 1, 3, n) == some true) = true := by decide +kernel
set_option maxRecDepth 100000 in
theorem td_1_3 : HX.all (fun p => Gd.all fun n => H.f (Cn 601) 1400 (p.1, p.2, 1, 3, n) == some true) = true := by decide +kernel
set_option maxRecDepth 100000 in
theorem te_1_3 : HX.all (fun p => Ge.all fun n => H.f (Cn 601) 1400 (p.1, p.2, 1, 3, n) == some true) = true := by decide +kernel
set_option maxRecDepth 100000 in
theorem tf_1_3 : HX.all (fun p => Gf.all fun n => H.f (Cn 601) 1400 (p.1, p.2, 1, 3, n) == some true) = true := by decide +kernel
set_option maxRecDepth 100000 in
theorem tg0_1_3 : HX0.all (fun p => Gg.all fun n => H.f (Cn 601) 1400 (p.1, p.2, 1, 3, n) == some true) = true := by decide +kernel
set_option maxRecDepth 100000 in
theorem tg1_1_3 : HX1.all (fun p => Gg.all fun n => H.f (Cn 601) 1400 (p.1, p.2, 1, 3, n) == some true) = true := by decide +kernel
theorem tabH_1_3 : HX.all (fun p => GX.all fun n => H.f (Cn 601) 1400 (p.1, p.2, 1, 3, n) == some true) = true :=
  glue _ ta_1_3 tb_1_3 tc_1_3 td_1_3 te_1_3 tf_1_3 tg0_1_3 tg1_1_3
set_option maxRecDepth 100000 in
theorem ta_2_3 : HX.all (fun p => Ga.all fun n => H.f (Cn 601) 1400 (p.1, p.2, 2, 3, n) == some true) = true := by decide +kernel
set_option maxRecDepth 100000 in
theorem tb_2_3 : HX.all (fun p => Gb.all fun n => H.f (Cn 601) 1400 (p.1, p.2, 2, 3, n) == some true) = true := by decide +kernel
set_option maxRecDepth 100000 in
theorem tc_2_3 : HX.all (fun p => Gc.all fun n => H.f (Cn 601) 1400 (p.1, p.2, 2, 3, n) == some true) = true := by decide +kernel
set_option maxRecDepth 100000 in
theorem td_2_3 : HX.all (fun p => Gd.all fun n => H.f (Cn 601) 1400 (p.1, p.2, 2, 3, n) == some true) = true := by decide +kernel
set_option maxRecDepth 100000 in
theorem te_2_3 : HX.all (fun p => Ge.all fun n => H.f (Cn 601) 1400 (p.1, p.2, 2, 3, n) == some true) = true := by decide +kernel
set_option maxRecDepth 100000 in
theorem tf_2_3 : HX.all (fun p => Gf.all fun n => H.f (Cn 601) 1400 (p.1, p.2, 2, 3, n) == some true) = true := by decide +kernel
set_option maxRecDepth 100000 in
theorem tg0_2_3 : HX0.all (fun p => Gg.all fun n => H.f (Cn 601) 1400 (p.1, p.2, 2, 3, n) == some true) = true := by decide +kernel
set_option maxRecDepth 100000 in
theorem tg1_2_3 : HX1.all (fun p => Gg.all fun n => H.f (Cn 601) 1400 (p.1, p.2, 2, 3, n) == some true) = true := by decide +kernel
theorem tabH_2_3 : HX.all (fun p => GX.all fun n => H.f (Cn 601) 1400 (p.1, p.2, 2, 3, n) == some true) = true :=
  glue _ ta_2_3 tb_2_3 tc_2_3 td_2_3 te_2_3 tf_2_3 tg0_2_3 tg1_2_3
end Go.Proofs.Ytoglhflnfkmkcaa.Pure
