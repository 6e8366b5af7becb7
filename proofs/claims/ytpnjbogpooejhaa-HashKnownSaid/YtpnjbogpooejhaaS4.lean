import Derived.Test.YtpnjbogpooejhaaS3a
import Derived.Test.YtpnjbogpooejhaaS3b
import Derived.Test.YtpnjbogpooejhaaS3c
import Derived.Test.YtpnjbogpooejhaaS3d
namespace Go.Proofs.Ytpnjbogpooejhaa.H
open Go.RowKit Go.Proofs.Ytpnjbogpooejhaa.XH Go.Proofs.YtpnjbogpooejhaaW.PrintWords Go.Proofs.YtpnjbogpooejhaaW.PrintLast Go.Proofs.YtpnjbogpooejhaaW.PrintMore Go.Proofs.YtpnjbogpooejhaaXe Go.Proofs.YtpnjbogpooejhaaXs
set_option linter.unusedVariables false
set_option linter.unusedSimpArgs false
attribute [local go_sem ↓] Go.wp_at_zero Go.wp_at_succ
attribute [local go_sem] valUpon
set_option maxRecDepth 100000
def st0 : N8 := ⟨1779033703, 3144134277, 1013904242, 2773480762, 1359893119, 2600822924, 528734635, 1541459225⟩
def st1 : N8 := ⟨1945569387, 2365760980, 1133545762, 3189632487, 1413914491, 2842007363, 2328012121, 2765092539⟩
def st2 : N8 := ⟨764023923, 2366715185, 2897568140, 2515183172, 2853449130, 996207452, 2002164011, 3873962123⟩
def st3 : N8 := ⟨4161295438, 3537140068, 810137347, 2208874564, 1185268689, 641342472, 466468121, 3361421283⟩
def st4 : N8 := ⟨1098286200, 3350274297, 200068088, 3380936082, 3130789036, 1995104008, 3770122096, 388565079⟩
def st5 : N8 := ⟨321355476, 2559851620, 3514855771, 2645036728, 3146199654, 2574519408, 3543386453, 3493416276⟩
def st6 : N8 := ⟨1113144981, 2311918062, 2326509279, 2004078477, 765724795, 1502087331, 2048585013, 2513247175⟩
def st7 : N8 := ⟨2380763644, 1584451288, 2710647852, 3419776187, 1744406357, 1009679034, 3157493023, 2545758785⟩
def st8 : N8 := ⟨1504370189, 2494873277, 361604228, 646017776, 3853460892, 254722808, 679879152, 1858259465⟩
def st9 : N8 := ⟨316718769, 931579534, 403207351, 78038560, 1538331987, 3673310052, 305548721, 1464675368⟩
def st10 : N8 := ⟨2904430130, 85026149, 2833920683, 2152454634, 3899944596, 3983410270, 2778307343, 3281522527⟩
def st11 : N8 := ⟨2651893482, 906304032, 323783565, 1357409983, 558259129, 2122042332, 343456361, 1330825974⟩
def st12 : N8 := ⟨27334067, 745235304, 2783367713, 90533480, 2341127202, 1123068539, 2496347471, 3477757203⟩
def st13 : N8 := ⟨4188493618, 3164188442, 4269337626, 3814779810, 631451237, 1068359444, 1550340222, 429307986⟩
def st14 : N8 := ⟨2051637149, 509550493, 2969376893, 2806103579, 3662880972, 2154565733, 3578070011, 3056918145⟩
def st15 : N8 := ⟨301817841, 3924188017, 4016994823, 1971206361, 1885486738, 3597213949, 3835654010, 2528825258⟩
def st16 : N8 := ⟨633996658, 614424450, 402636658, 135588474, 2110053504, 3233960065, 3672583423, 266068592⟩
def st17 : N8 := ⟨3168535384, 4084282382, 2269627714, 3461209229, 3223691822, 2837259288, 2636856668, 228376694⟩
def st18 : N8 := ⟨3166411230, 2099371579, 185416780, 770324239, 1025521895, 4184591236, 335135748, 1510378156⟩
def st19 : N8 := ⟨2872721354, 1518749861, 667764153, 603176987, 317700267, 1709565694, 1954851055, 2331956306⟩
def st20 : N8 := ⟨2061136107, 1745259042, 791610055, 2140370626, 1884297759, 3529239238, 671294972, 693152569⟩
theorem upto0 : iterN kwsA 782 st0 = st1 := (iter_eq kwsA 782 st0).symm.trans run0
theorem upto1 : iterN kwsA 1564 st0 = st2 := by
  rw [show 1564 = 782 + 782 from rfl, iterN_add, upto0]
  exact (iter_eq kwsA 782 st1).symm.trans run1
theorem upto2 : iterN kwsA 2346 st0 = st3 := by
  rw [show 2346 = 1564 + 782 from rfl, iterN_add, upto1]
  exact (iter_eq kwsA 782 st2).symm.trans run2
theorem upto3 : iterN kwsA 3128 st0 = st4 := by
  rw [show 3128 = 2346 + 782 from rfl, iterN_add, upto2]
  exact (iter_eq kwsA 782 st3).symm.trans run3
theorem upto4 : iterN kwsA 3910 st0 = st5 := by
  rw [show 3910 = 3128 + 782 from rfl, iterN_add, upto3]
  exact (iter_eq kwsA 782 st4).symm.trans run4
theorem upto5 : iterN kwsA 4692 st0 = st6 := by
  rw [show 4692 = 3910 + 782 from rfl, iterN_add, upto4]
  exact (iter_eq kwsA 782 st5).symm.trans run5
theorem upto6 : iterN kwsA 5474 st0 = st7 := by
  rw [show 5474 = 4692 + 782 from rfl, iterN_add, upto5]
  exact (iter_eq kwsA 782 st6).symm.trans run6
theorem upto7 : iterN kwsA 6256 st0 = st8 := by
  rw [show 6256 = 5474 + 782 from rfl, iterN_add, upto6]
  exact (iter_eq kwsA 782 st7).symm.trans run7
theorem upto8 : iterN kwsA 7038 st0 = st9 := by
  rw [show 7038 = 6256 + 782 from rfl, iterN_add, upto7]
  exact (iter_eq kwsA 782 st8).symm.trans run8
theorem upto9 : iterN kwsA 7820 st0 = st10 := by
  rw [show 7820 = 7038 + 782 from rfl, iterN_add, upto8]
  exact (iter_eq kwsA 782 st9).symm.trans run9
theorem upto10 : iterN kwsA 8602 st0 = st11 := by
  rw [show 8602 = 7820 + 782 from rfl, iterN_add, upto9]
  exact (iter_eq kwsA 782 st10).symm.trans run10
theorem upto11 : iterN kwsA 9384 st0 = st12 := by
  rw [show 9384 = 8602 + 782 from rfl, iterN_add, upto10]
  exact (iter_eq kwsA 782 st11).symm.trans run11
theorem upto12 : iterN kwsA 10166 st0 = st13 := by
  rw [show 10166 = 9384 + 782 from rfl, iterN_add, upto11]
  exact (iter_eq kwsA 782 st12).symm.trans run12
theorem upto13 : iterN kwsA 10948 st0 = st14 := by
  rw [show 10948 = 10166 + 782 from rfl, iterN_add, upto12]
  exact (iter_eq kwsA 782 st13).symm.trans run13
theorem upto14 : iterN kwsA 11730 st0 = st15 := by
  rw [show 11730 = 10948 + 782 from rfl, iterN_add, upto13]
  exact (iter_eq kwsA 782 st14).symm.trans run14
theorem upto15 : iterN kwsA 12512 st0 = st16 := by
  rw [show 12512 = 11730 + 782 from rfl, iterN_add, upto14]
  exact (iter_eq kwsA 782 st15).symm.trans run15
theorem upto16 : iterN kwsA 13294 st0 = st17 := by
  rw [show 13294 = 12512 + 782 from rfl, iterN_add, upto15]
  exact (iter_eq kwsA 782 st16).symm.trans run16
theorem upto17 : iterN kwsA 14076 st0 = st18 := by
  rw [show 14076 = 13294 + 782 from rfl, iterN_add, upto16]
  exact (iter_eq kwsA 782 st17).symm.trans run17
theorem upto18 : iterN kwsA 14858 st0 = st19 := by
  rw [show 14858 = 14076 + 782 from rfl, iterN_add, upto17]
  exact (iter_eq kwsA 782 st18).symm.trans run18
theorem upto19 : iterN kwsA 15625 st0 = st20 := by
  rw [show 15625 = 14858 + 767 from rfl, iterN_add, upto18]
  exact (iter_eq kwsA 767 st19).symm.trans run19
theorem st0_ok : st0.Ok := ⟨by decide, by decide, by decide, by decide, by decide, by decide, by decide, by decide⟩
theorem st0_v : st0.v = H0 := rfl
theorem st20_ok : st20.Ok := upto19 ▸ iterN_ok kwsA 15625 st0 st0_ok
theorem last_block : behV st20.v padM = (⟨3452399196, 2568289170, 2174863330, 2228698727, 4051737160, 2761367566, 74267084, 3339791568⟩ : N8).v := by
  rw [beh_nat st20_ok kwsP padM (by decide) kwsP_ok]
  have h : blkN kwsP st20 = (⟨3452399196, 2568289170, 2174863330, 2228698727, 4051737160, 2761367566, 74267084, 3339791568⟩ : N8) := by kernel_rfl
  rw [h]
/-- a million times 'a' -/
theorem sha_million : sha (List.replicate 1000000 97) = [205, 199, 110, 92, 153, 20, 251, 146, 129, 161, 199, 226, 132, 215, 62, 103, 241, 128, 154, 72, 164, 151, 32, 14, 4, 109, 57, 204, 199, 17, 44, 208] := by
  unfold sha
  rw [List.length_replicate, padI_M, show (List.replicate 1000000 (97 : Int) ++ padM).length / 64 = 15625 + 1 from by rw [List.length_append, List.length_replicate]; rfl, show (1000000 : Nat) = 64 * 15625 from rfl, ← st0_v, fold_iter kwsA 97 rfl kwsA_ok padM 1 15625 st0 st0_ok, upto19]
  show outI (foldB 1 st20.v padM).l 32 = _
  rw [show foldB 1 st20.v padM = behV st20.v padM from by rw [foldB, foldB]; rfl, last_block]
  decide +kernel
end Go.Proofs.Ytpnjbogpooejhaa.H
