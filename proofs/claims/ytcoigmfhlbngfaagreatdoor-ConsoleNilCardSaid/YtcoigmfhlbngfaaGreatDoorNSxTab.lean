/-
  The tables of this seat's program for the executor.
-/
import Derived.Test.YtcoigmfhlbngfaaGreatDoorProg
import Derived.Test.YtcoigmfhlbngfaaGreatDoorNSxF
import Derived.KernelRfl
set_option linter.unusedSimpArgs false
set_option linter.unusedVariables false
set_option maxRecDepth 100000
set_option maxHeartbeats 0
namespace Go.Proofs
open Go.Sx
abbrev lf {α : Type} (a : α) : T α := .n .e (some a) .e
abbrev nd {α : Type} (l : T α) (a : Option α) (r : T α) : T α := .n l a r
abbrev z0 {α : Type} : T α := .n .e none .e
open Tryz
noncomputable def sf0 : T Func := nd (nd (nd (lf f1023) (some f511) z0) (some f255) (nd z0 (some f767) z0)) (some f127) (nd (nd z0 (some f639) z0) (some f383) (nd z0 (some f895) z0))
noncomputable def sf1 : T Func := nd (nd (nd (lf f1087) (some f575) z0) (some f319) (nd z0 (some f831) z0)) (some f191) (nd (nd z0 (some f703) z0) (some f447) (nd z0 (some f959) z0))
noncomputable def sf2 : T Func := nd sf0 (some f63) sf1
noncomputable def sf3 : T Func := nd (nd (nd (lf f1055) (some f543) z0) (some f287) (nd z0 (some f799) z0)) (some f159) (nd (nd z0 (some f671) z0) (some f415) (nd z0 (some f927) z0))
noncomputable def sf4 : T Func := nd (nd (nd z0 (some f607) z0) (some f351) (nd z0 (some f863) z0)) (some f223) (nd (nd z0 (some f735) z0) (some f479) (nd z0 (some f991) z0))
noncomputable def sf5 : T Func := nd sf3 (some f95) sf4
noncomputable def sf6 : T Func := nd sf2 (some f31) sf5
noncomputable def sf7 : T Func := nd (nd (nd (lf f1039) (some f527) z0) (some f271) (nd z0 (some f783) z0)) (some f143) (nd (nd z0 (some f655) z0) (some f399) (nd z0 (some f911) z0))
noncomputable def sf8 : T Func := nd (nd (nd z0 (some f591) z0) (some f335) (nd z0 (some f847) z0)) (some f207) (nd (nd z0 (some f719) z0) (some f463) (nd z0 (some f975) z0))
noncomputable def sf9 : T Func := nd sf7 (some f79) sf8
noncomputable def sf10 : T Func := nd (nd (nd (lf f1071) (some f559) z0) (some f303) (nd z0 (some f815) z0)) (some f175) (nd (nd z0 (some f687) z0) (some f431) (nd z0 (some f943) z0))
noncomputable def sf11 : T Func := nd (nd (nd z0 (some f623) z0) (some f367) (nd z0 (some f879) z0)) (some f239) (nd (nd z0 (some f751) z0) (some f495) (nd z0 (some f1007) z0))
noncomputable def sf12 : T Func := nd sf10 (some f111) sf11
noncomputable def sf13 : T Func := nd sf9 (some f47) sf12
noncomputable def sf14 : T Func := nd sf6 (some f15) sf13
noncomputable def sf15 : T Func := nd (nd (nd (lf f1031) (some f519) z0) (some f263) (nd z0 (some f775) z0)) (some f135) (nd (nd z0 (some f647) z0) (some f391) (nd z0 (some f903) z0))
noncomputable def sf16 : T Func := nd (nd (nd z0 (some f583) z0) (some f327) (nd z0 (some f839) z0)) (some f199) (nd (nd z0 (some f711) z0) (some f455) (nd z0 (some f967) z0))
noncomputable def sf17 : T Func := nd sf15 (some f71) sf16
noncomputable def sf18 : T Func := nd (nd (nd (lf f1063) (some f551) z0) (some f295) (nd z0 (some f807) z0)) (some f167) (nd (nd z0 (some f679) z0) (some f423) (nd z0 (some f935) z0))
noncomputable def sf19 : T Func := nd (nd (nd z0 (some f615) z0) (some f359) (nd z0 (some f871) z0)) (some f231) (nd (nd z0 (some f743) z0) (some f487) (nd z0 (some f999) z0))
noncomputable def sf20 : T Func := nd sf18 (some f103) sf19
noncomputable def sf21 : T Func := nd sf17 (some f39) sf20
noncomputable def sf22 : T Func := nd (nd (nd (lf f1047) (some f535) z0) (some f279) (nd z0 (some f791) z0)) (some f151) (nd (nd z0 (some f663) z0) (some f407) (nd z0 (some f919) z0))
noncomputable def sf23 : T Func := nd (nd (nd z0 (some f599) z0) (some f343) (nd z0 (some f855) z0)) (some f215) (nd (nd z0 (some f727) z0) (some f471) (nd z0 (some f983) z0))
noncomputable def sf24 : T Func := nd sf22 (some f87) sf23
noncomputable def sf25 : T Func := nd (nd (nd (lf f1079) (some f567) z0) (some f311) (nd z0 (some f823) z0)) (some f183) (nd (nd z0 (some f695) z0) (some f439) (nd z0 (some f951) z0))
noncomputable def sf26 : T Func := nd (nd (nd z0 (some f631) z0) (some f375) (nd z0 (some f887) z0)) (some f247) (nd (nd z0 (some f759) z0) (some f503) (nd z0 (some f1015) z0))
noncomputable def sf27 : T Func := nd sf25 (some f119) sf26
noncomputable def sf28 : T Func := nd sf24 (some f55) sf27
noncomputable def sf29 : T Func := nd sf21 (some f23) sf28
noncomputable def sf30 : T Func := nd sf14 (some f7) sf29
noncomputable def sf31 : T Func := nd (nd (nd (lf f1027) (some f515) z0) (some f259) (nd z0 (some f771) z0)) (some f131) (nd (nd z0 (some f643) z0) (some f387) (nd z0 (some f899) z0))
noncomputable def sf32 : T Func := nd (nd (nd (lf f1091) (some f579) z0) (some f323) (nd z0 (some f835) z0)) (some f195) (nd (nd z0 (some f707) z0) (some f451) (nd z0 (some f963) z0))
noncomputable def sf33 : T Func := nd sf31 (some f67) sf32
noncomputable def sf34 : T Func := nd (nd (nd (lf f1059) (some f547) z0) (some f291) (nd z0 (some f803) z0)) (some f163) (nd (nd z0 (some f675) z0) (some f419) (nd z0 (some f931) z0))
noncomputable def sf35 : T Func := nd (nd (nd z0 (some f611) z0) (some f355) (nd z0 (some f867) z0)) (some f227) (nd (nd z0 (some f739) z0) (some f483) (nd z0 (some f995) z0))
noncomputable def sf36 : T Func := nd sf34 (some f99) sf35
noncomputable def sf37 : T Func := nd sf33 (some f35) sf36
noncomputable def sf38 : T Func := nd (nd (nd (lf f1043) (some f531) z0) (some f275) (nd z0 (some f787) z0)) (some f147) (nd (nd z0 (some f659) z0) (some f403) (nd z0 (some f915) z0))
noncomputable def sf39 : T Func := nd (nd (nd z0 (some f595) z0) (some f339) (nd z0 (some f851) z0)) (some f211) (nd (nd z0 (some f723) z0) (some f467) (nd z0 (some f979) z0))
noncomputable def sf40 : T Func := nd sf38 (some f83) sf39
noncomputable def sf41 : T Func := nd (nd (nd (lf f1075) (some f563) z0) (some f307) (nd z0 (some f819) z0)) (some f179) (nd (nd z0 (some f691) z0) (some f435) (nd z0 (some f947) z0))
noncomputable def sf42 : T Func := nd (nd (nd z0 (some f627) z0) (some f371) (nd z0 (some f883) z0)) (some f243) (nd (nd z0 (some f755) z0) (some f499) (nd z0 (some f1011) z0))
noncomputable def sf43 : T Func := nd sf41 (some f115) sf42
noncomputable def sf44 : T Func := nd sf40 (some f51) sf43
noncomputable def sf45 : T Func := nd sf37 (some f19) sf44
noncomputable def sf46 : T Func := nd (nd (nd (lf f1035) (some f523) z0) (some f267) (nd z0 (some f779) z0)) (some f139) (nd (nd z0 (some f651) z0) (some f395) (nd z0 (some f907) z0))
noncomputable def sf47 : T Func := nd (nd (nd z0 (some f587) z0) (some f331) (nd z0 (some f843) z0)) (some f203) (nd (nd z0 (some f715) z0) (some f459) (nd z0 (some f971) z0))
noncomputable def sf48 : T Func := nd sf46 (some f75) sf47
noncomputable def sf49 : T Func := nd (nd (nd (lf f1067) (some f555) z0) (some f299) (nd z0 (some f811) z0)) (some f171) (nd (nd z0 (some f683) z0) (some f427) (nd z0 (some f939) z0))
noncomputable def sf50 : T Func := nd (nd (nd z0 (some f619) z0) (some f363) (nd z0 (some f875) z0)) (some f235) (nd (nd z0 (some f747) z0) (some f491) (nd z0 (some f1003) z0))
noncomputable def sf51 : T Func := nd sf49 (some f107) sf50
noncomputable def sf52 : T Func := nd sf48 (some f43) sf51
noncomputable def sf53 : T Func := nd (nd (nd (lf f1051) (some f539) z0) (some f283) (nd z0 (some f795) z0)) (some f155) (nd (nd z0 (some f667) z0) (some f411) (nd z0 (some f923) z0))
noncomputable def sf54 : T Func := nd (nd (nd z0 (some f603) z0) (some f347) (nd z0 (some f859) z0)) (some f219) (nd (nd z0 (some f731) z0) (some f475) (nd z0 (some f987) z0))
noncomputable def sf55 : T Func := nd sf53 (some f91) sf54
noncomputable def sf56 : T Func := nd (nd (nd (lf f1083) (some f571) z0) (some f315) (nd z0 (some f827) z0)) (some f187) (nd (nd z0 (some f699) z0) (some f443) (nd z0 (some f955) z0))
noncomputable def sf57 : T Func := nd (nd (nd z0 (some f635) z0) (some f379) (nd z0 (some f891) z0)) (some f251) (nd (nd z0 (some f763) z0) (some f507) (nd z0 (some f1019) z0))
noncomputable def sf58 : T Func := nd sf56 (some f123) sf57
noncomputable def sf59 : T Func := nd sf55 (some f59) sf58
noncomputable def sf60 : T Func := nd sf52 (some f27) sf59
noncomputable def sf61 : T Func := nd sf45 (some f11) sf60
noncomputable def sf62 : T Func := nd sf30 (some f3) sf61
noncomputable def sf63 : T Func := nd (nd (nd (lf f1025) (some f513) z0) (some f257) (nd z0 (some f769) z0)) (some f129) (nd (nd z0 (some f641) z0) (some f385) (nd z0 (some f897) z0))
noncomputable def sf64 : T Func := nd (nd (nd (lf f1089) (some f577) z0) (some f321) (nd z0 (some f833) z0)) (some f193) (nd (nd z0 (some f705) z0) (some f449) (nd z0 (some f961) z0))
noncomputable def sf65 : T Func := nd sf63 (some f65) sf64
noncomputable def sf66 : T Func := nd (nd (nd (lf f1057) (some f545) z0) (some f289) (nd z0 (some f801) z0)) (some f161) (nd (nd z0 (some f673) z0) (some f417) (nd z0 (some f929) z0))
noncomputable def sf67 : T Func := nd (nd (nd z0 (some f609) z0) (some f353) (nd z0 (some f865) z0)) (some f225) (nd (nd z0 (some f737) z0) (some f481) (nd z0 (some f993) z0))
noncomputable def sf68 : T Func := nd sf66 (some f97) sf67
noncomputable def sf69 : T Func := nd sf65 (some f33) sf68
noncomputable def sf70 : T Func := nd (nd (nd (lf f1041) (some f529) z0) (some f273) (nd z0 (some f785) z0)) (some f145) (nd (nd z0 (some f657) z0) (some f401) (nd z0 (some f913) z0))
noncomputable def sf71 : T Func := nd (nd (nd z0 (some f593) z0) (some f337) (nd z0 (some f849) z0)) (some f209) (nd (nd z0 (some f721) z0) (some f465) (nd z0 (some f977) z0))
noncomputable def sf72 : T Func := nd sf70 (some f81) sf71
noncomputable def sf73 : T Func := nd (nd (nd (lf f1073) (some f561) z0) (some f305) (nd z0 (some f817) z0)) (some f177) (nd (nd z0 (some f689) z0) (some f433) (nd z0 (some f945) z0))
noncomputable def sf74 : T Func := nd (nd (nd z0 (some f625) z0) (some f369) (nd z0 (some f881) z0)) (some f241) (nd (nd z0 (some f753) z0) (some f497) (nd z0 (some f1009) z0))
noncomputable def sf75 : T Func := nd sf73 (some f113) sf74
noncomputable def sf76 : T Func := nd sf72 (some f49) sf75
noncomputable def sf77 : T Func := nd sf69 (some f17) sf76
noncomputable def sf78 : T Func := nd (nd (nd (lf f1033) (some f521) z0) (some f265) (nd z0 (some f777) z0)) (some f137) (nd (nd z0 (some f649) z0) (some f393) (nd z0 (some f905) z0))
noncomputable def sf79 : T Func := nd (nd (nd z0 (some f585) z0) (some f329) (nd z0 (some f841) z0)) (some f201) (nd (nd z0 (some f713) z0) (some f457) (nd z0 (some f969) z0))
noncomputable def sf80 : T Func := nd sf78 (some f73) sf79
noncomputable def sf81 : T Func := nd (nd (nd (lf f1065) (some f553) z0) (some f297) (nd z0 (some f809) z0)) (some f169) (nd (nd z0 (some f681) z0) (some f425) (nd z0 (some f937) z0))
noncomputable def sf82 : T Func := nd (nd (nd z0 (some f617) z0) (some f361) (nd z0 (some f873) z0)) (some f233) (nd (nd z0 (some f745) z0) (some f489) (nd z0 (some f1001) z0))
noncomputable def sf83 : T Func := nd sf81 (some f105) sf82
noncomputable def sf84 : T Func := nd sf80 (some f41) sf83
noncomputable def sf85 : T Func := nd (nd (nd (lf f1049) (some f537) z0) (some f281) (nd z0 (some f793) z0)) (some f153) (nd (nd z0 (some f665) z0) (some f409) (nd z0 (some f921) z0))
noncomputable def sf86 : T Func := nd (nd (nd z0 (some f601) z0) (some f345) (nd z0 (some f857) z0)) (some f217) (nd (nd z0 (some f729) z0) (some f473) (nd z0 (some f985) z0))
noncomputable def sf87 : T Func := nd sf85 (some f89) sf86
noncomputable def sf88 : T Func := nd (nd (nd (lf f1081) (some f569) z0) (some f313) (nd z0 (some f825) z0)) (some f185) (nd (nd z0 (some f697) z0) (some f441) (nd z0 (some f953) z0))
noncomputable def sf89 : T Func := nd (nd (nd z0 (some f633) z0) (some f377) (nd z0 (some f889) z0)) (some f249) (nd (nd z0 (some f761) z0) (some f505) (nd z0 (some f1017) z0))
noncomputable def sf90 : T Func := nd sf88 (some f121) sf89
noncomputable def sf91 : T Func := nd sf87 (some f57) sf90
noncomputable def sf92 : T Func := nd sf84 (some f25) sf91
noncomputable def sf93 : T Func := nd sf77 (some f9) sf92
noncomputable def sf94 : T Func := nd (nd (nd (lf f1029) (some f517) z0) (some f261) (nd z0 (some f773) z0)) (some f133) (nd (nd z0 (some f645) z0) (some f389) (nd z0 (some f901) z0))
noncomputable def sf95 : T Func := nd (nd (nd (lf f1093) (some f581) z0) (some f325) (nd z0 (some f837) z0)) (some f197) (nd (nd z0 (some f709) z0) (some f453) (nd z0 (some f965) z0))
noncomputable def sf96 : T Func := nd sf94 (some f69) sf95
noncomputable def sf97 : T Func := nd (nd (nd (lf f1061) (some f549) z0) (some f293) (nd z0 (some f805) z0)) (some f165) (nd (nd z0 (some f677) z0) (some f421) (nd z0 (some f933) z0))
noncomputable def sf98 : T Func := nd (nd (nd z0 (some f613) z0) (some f357) (nd z0 (some f869) z0)) (some f229) (nd (nd z0 (some f741) z0) (some f485) (nd z0 (some f997) z0))
noncomputable def sf99 : T Func := nd sf97 (some f101) sf98
noncomputable def k4c : T Func := nd sf96 (some f37) sf99
noncomputable def k4d : T Func := nd (nd (nd (lf f1045) (some f533) z0) (some f277) (nd z0 (some f789) z0)) (some f149) (nd (nd z0 (some f661) z0) (some f405) (nd z0 (some f917) z0))
noncomputable def k4e : T Func := nd (nd (nd z0 (some f597) z0) (some f341) (nd z0 (some f853) z0)) (some f213) (nd (nd z0 (some f725) z0) (some f469) (nd z0 (some f981) z0))
noncomputable def k4f : T Func := nd k4d (some f85) k4e
noncomputable def k4g : T Func := nd (nd (nd (lf f1077) (some f565) z0) (some f309) (nd z0 (some f821) z0)) (some f181) (nd (nd z0 (some f693) z0) (some f437) (nd z0 (some f949) z0))
noncomputable def k4h : T Func := nd (nd (nd z0 (some f629) z0) (some f373) (nd z0 (some f885) z0)) (some f245) (nd (nd z0 (some f757) z0) (some f501) (nd z0 (some f1013) z0))
noncomputable def k4i : T Func := nd k4g (some f117) k4h
noncomputable def k4j : T Func := nd k4f (some f53) k4i
noncomputable def k4k : T Func := nd k4c (some f21) k4j
noncomputable def k4l : T Func := nd (nd (nd (lf f1037) (some f525) z0) (some f269) (nd z0 (some f781) z0)) (some f141) (nd (nd z0 (some f653) z0) (some f397) (nd z0 (some f909) z0))
noncomputable def k4m : T Func := nd (nd (nd z0 (some f589) z0) (some f333) (nd z0 (some f845) z0)) (some f205) (nd (nd z0 (some f717) z0) (some f461) (nd z0 (some f973) z0))
noncomputable def k4n : T Func := nd k4l (some f77) k4m
noncomputable def k4o : T Func := nd (nd (nd (lf f1069) (some f557) z0) (some f301) (nd z0 (some f813) z0)) (some f173) (nd (nd z0 (some f685) z0) (some f429) (nd z0 (some f941) z0))
noncomputable def k4p : T Func := nd (nd (nd z0 (some f621) z0) (some f365) (nd z0 (some f877) z0)) (some f237) (nd (nd z0 (some f749) z0) (some f493) (nd z0 (some f1005) z0))
noncomputable def k4q : T Func := nd k4o (some f109) k4p
noncomputable def k4r : T Func := nd k4n (some f45) k4q
noncomputable def k4s : T Func := nd (nd (nd (lf f1053) (some f541) z0) (some f285) (nd z0 (some f797) z0)) (some f157) (nd (nd z0 (some f669) z0) (some f413) (nd z0 (some f925) z0))
noncomputable def k4t : T Func := nd (nd (nd z0 (some f605) z0) (some f349) (nd z0 (some f861) z0)) (some f221) (nd (nd z0 (some f733) z0) (some f477) (nd z0 (some f989) z0))
noncomputable def k4u : T Func := nd k4s (some f93) k4t
noncomputable def k4v : T Func := nd (nd (nd (lf f1085) (some f573) z0) (some f317) (nd z0 (some f829) z0)) (some f189) (nd (nd z0 (some f701) z0) (some f445) (nd z0 (some f957) z0))
noncomputable def k4w : T Func := nd (nd (nd z0 (some f637) z0) (some f381) (nd z0 (some f893) z0)) (some f253) (nd (nd z0 (some f765) z0) (some f509) (nd z0 (some f1021) z0))
noncomputable def k4x : T Func := nd k4v (some f125) k4w
noncomputable def k4y : T Func := nd k4u (some f61) k4x
noncomputable def k4z : T Func := nd k4r (some f29) k4y
noncomputable def k4A : T Func := nd k4k (some f13) k4z
noncomputable def k4B : T Func := nd sf93 (some f5) k4A
noncomputable def k4C : T Func := nd sf62 (some f1) k4B
noncomputable def k4D : T Func := nd (nd (nd (lf f1024) (some f512) z0) (some f256) (nd z0 (some f768) z0)) (some f128) (nd (nd z0 (some f640) z0) (some f384) (nd z0 (some f896) z0))
noncomputable def k4E : T Func := nd (nd (nd (lf f1088) (some f576) z0) (some f320) (nd z0 (some f832) z0)) (some f192) (nd (nd z0 (some f704) z0) (some f448) (nd z0 (some f960) z0))
noncomputable def k4F : T Func := nd k4D (some f64) k4E
noncomputable def k4G : T Func := nd (nd (nd (lf f1056) (some f544) z0) (some f288) (nd z0 (some f800) z0)) (some f160) (nd (nd z0 (some f672) z0) (some f416) (nd z0 (some f928) z0))
noncomputable def k4H : T Func := nd (nd (nd z0 (some f608) z0) (some f352) (nd z0 (some f864) z0)) (some f224) (nd (nd z0 (some f736) z0) (some f480) (nd z0 (some f992) z0))
noncomputable def k4I : T Func := nd k4G (some f96) k4H
noncomputable def k4J : T Func := nd k4F (some f32) k4I
noncomputable def k4K : T Func := nd (nd (nd (lf f1040) (some f528) z0) (some f272) (nd z0 (some f784) z0)) (some f144) (nd (nd z0 (some f656) z0) (some f400) (nd z0 (some f912) z0))
noncomputable def k4L : T Func := nd (nd (nd z0 (some f592) z0) (some f336) (nd z0 (some f848) z0)) (some f208) (nd (nd z0 (some f720) z0) (some f464) (nd z0 (some f976) z0))
noncomputable def k4M : T Func := nd k4K (some f80) k4L
noncomputable def k4N : T Func := nd (nd (nd (lf f1072) (some f560) z0) (some f304) (nd z0 (some f816) z0)) (some f176) (nd (nd z0 (some f688) z0) (some f432) (nd z0 (some f944) z0))
noncomputable def k4O : T Func := nd (nd (nd z0 (some f624) z0) (some f368) (nd z0 (some f880) z0)) (some f240) (nd (nd z0 (some f752) z0) (some f496) (nd z0 (some f1008) z0))
noncomputable def k4P : T Func := nd k4N (some f112) k4O
noncomputable def k4Q : T Func := nd k4M (some f48) k4P
noncomputable def k4R : T Func := nd k4J (some f16) k4Q
noncomputable def k4S : T Func := nd (nd (nd (lf f1032) (some f520) z0) (some f264) (nd z0 (some f776) z0)) (some f136) (nd (nd z0 (some f648) z0) (some f392) (nd z0 (some f904) z0))
noncomputable def k4T : T Func := nd (nd (nd z0 (some f584) z0) (some f328) (nd z0 (some f840) z0)) (some f200) (nd (nd z0 (some f712) z0) (some f456) (nd z0 (some f968) z0))
noncomputable def k4U : T Func := nd k4S (some f72) k4T
noncomputable def k4V : T Func := nd (nd (nd (lf f1064) (some f552) z0) (some f296) (nd z0 (some f808) z0)) (some f168) (nd (nd z0 (some f680) z0) (some f424) (nd z0 (some f936) z0))
noncomputable def k4W : T Func := nd (nd (nd z0 (some f616) z0) (some f360) (nd z0 (some f872) z0)) (some f232) (nd (nd z0 (some f744) z0) (some f488) (nd z0 (some f1000) z0))
noncomputable def k4X : T Func := nd k4V (some f104) k4W
noncomputable def k4Y : T Func := nd k4U (some f40) k4X
noncomputable def k4Z : T Func := nd (nd (nd (lf f1048) (some f536) z0) (some f280) (nd z0 (some f792) z0)) (some f152) (nd (nd z0 (some f664) z0) (some f408) (nd z0 (some f920) z0))
noncomputable def k5a : T Func := nd (nd (nd z0 (some f600) z0) (some f344) (nd z0 (some f856) z0)) (some f216) (nd (nd z0 (some f728) z0) (some f472) (nd z0 (some f984) z0))
noncomputable def k5b : T Func := nd k4Z (some f88) k5a
noncomputable def k5c : T Func := nd (nd (nd (lf f1080) (some f568) z0) (some f312) (nd z0 (some f824) z0)) (some f184) (nd (nd z0 (some f696) z0) (some f440) (nd z0 (some f952) z0))
noncomputable def k5d : T Func := nd (nd (nd z0 (some f632) z0) (some f376) (nd z0 (some f888) z0)) (some f248) (nd (nd z0 (some f760) z0) (some f504) (nd z0 (some f1016) z0))
noncomputable def k5e : T Func := nd k5c (some f120) k5d
noncomputable def k5f : T Func := nd k5b (some f56) k5e
noncomputable def k5g : T Func := nd k4Y (some f24) k5f
noncomputable def k5h : T Func := nd k4R (some f8) k5g
noncomputable def k5i : T Func := nd (nd (nd (lf f1028) (some f516) z0) (some f260) (nd z0 (some f772) z0)) (some f132) (nd (nd z0 (some f644) z0) (some f388) (nd z0 (some f900) z0))
noncomputable def k5j : T Func := nd (nd (nd (lf f1092) (some f580) z0) (some f324) (nd z0 (some f836) z0)) (some f196) (nd (nd z0 (some f708) z0) (some f452) (nd z0 (some f964) z0))
noncomputable def k5k : T Func := nd k5i (some f68) k5j
noncomputable def k5l : T Func := nd (nd (nd (lf f1060) (some f548) z0) (some f292) (nd z0 (some f804) z0)) (some f164) (nd (nd z0 (some f676) z0) (some f420) (nd z0 (some f932) z0))
noncomputable def k5m : T Func := nd (nd (nd z0 (some f612) z0) (some f356) (nd z0 (some f868) z0)) (some f228) (nd (nd z0 (some f740) z0) (some f484) (nd z0 (some f996) z0))
noncomputable def k5n : T Func := nd k5l (some f100) k5m
noncomputable def k5o : T Func := nd k5k (some f36) k5n
noncomputable def k5p : T Func := nd (nd (nd (lf f1044) (some f532) z0) (some f276) (nd z0 (some f788) z0)) (some f148) (nd (nd z0 (some f660) z0) (some f404) (nd z0 (some f916) z0))
noncomputable def k5q : T Func := nd (nd (nd z0 (some f596) z0) (some f340) (nd z0 (some f852) z0)) (some f212) (nd (nd z0 (some f724) z0) (some f468) (nd z0 (some f980) z0))
noncomputable def k5r : T Func := nd k5p (some f84) k5q
noncomputable def k5s : T Func := nd (nd (nd (lf f1076) (some f564) z0) (some f308) (nd z0 (some f820) z0)) (some f180) (nd (nd z0 (some f692) z0) (some f436) (nd z0 (some f948) z0))
noncomputable def k5t : T Func := nd (nd (nd z0 (some f628) z0) (some f372) (nd z0 (some f884) z0)) (some f244) (nd (nd z0 (some f756) z0) (some f500) (nd z0 (some f1012) z0))
noncomputable def k5u : T Func := nd k5s (some f116) k5t
noncomputable def k5v : T Func := nd k5r (some f52) k5u
noncomputable def k5w : T Func := nd k5o (some f20) k5v
noncomputable def k5x : T Func := nd (nd (nd (lf f1036) (some f524) z0) (some f268) (nd z0 (some f780) z0)) (some f140) (nd (nd z0 (some f652) z0) (some f396) (nd z0 (some f908) z0))
noncomputable def k5y : T Func := nd (nd (nd z0 (some f588) z0) (some f332) (nd z0 (some f844) z0)) (some f204) (nd (nd z0 (some f716) z0) (some f460) (nd z0 (some f972) z0))
noncomputable def k5z : T Func := nd k5x (some f76) k5y
noncomputable def k5A : T Func := nd (nd (nd (lf f1068) (some f556) z0) (some f300) (nd z0 (some f812) z0)) (some f172) (nd (nd z0 (some f684) z0) (some f428) (nd z0 (some f940) z0))
noncomputable def k5B : T Func := nd (nd (nd z0 (some f620) z0) (some f364) (nd z0 (some f876) z0)) (some f236) (nd (nd z0 (some f748) z0) (some f492) (nd z0 (some f1004) z0))
noncomputable def k5C : T Func := nd k5A (some f108) k5B
noncomputable def k5D : T Func := nd k5z (some f44) k5C
noncomputable def k5E : T Func := nd (nd (nd (lf f1052) (some f540) z0) (some f284) (nd z0 (some f796) z0)) (some f156) (nd (nd z0 (some f668) z0) (some f412) (nd z0 (some f924) z0))
noncomputable def k5F : T Func := nd (nd (nd z0 (some f604) z0) (some f348) (nd z0 (some f860) z0)) (some f220) (nd (nd z0 (some f732) z0) (some f476) (nd z0 (some f988) z0))
noncomputable def k5G : T Func := nd k5E (some f92) k5F
noncomputable def k5H : T Func := nd (nd (nd (lf f1084) (some f572) z0) (some f316) (nd z0 (some f828) z0)) (some f188) (nd (nd z0 (some f700) z0) (some f444) (nd z0 (some f956) z0))
noncomputable def k5I : T Func := nd (nd (nd z0 (some f636) z0) (some f380) (nd z0 (some f892) z0)) (some f252) (nd (nd z0 (some f764) z0) (some f508) (nd z0 (some f1020) z0))
noncomputable def k5J : T Func := nd k5H (some f124) k5I
noncomputable def k5K : T Func := nd k5G (some f60) k5J
noncomputable def k5L : T Func := nd k5D (some f28) k5K
noncomputable def k5M : T Func := nd k5w (some f12) k5L
noncomputable def k5N : T Func := nd k5h (some f4) k5M
noncomputable def k5O : T Func := nd (nd (nd (lf f1026) (some f514) z0) (some f258) (nd z0 (some f770) z0)) (some f130) (nd (nd z0 (some f642) z0) (some f386) (nd z0 (some f898) z0))
noncomputable def k5P : T Func := nd (nd (nd (lf f1090) (some f578) z0) (some f322) (nd z0 (some f834) z0)) (some f194) (nd (nd z0 (some f706) z0) (some f450) (nd z0 (some f962) z0))
noncomputable def k5Q : T Func := nd k5O (some f66) k5P
noncomputable def k5R : T Func := nd (nd (nd (lf f1058) (some f546) z0) (some f290) (nd z0 (some f802) z0)) (some f162) (nd (nd z0 (some f674) z0) (some f418) (nd z0 (some f930) z0))
noncomputable def k5S : T Func := nd (nd (nd z0 (some f610) z0) (some f354) (nd z0 (some f866) z0)) (some f226) (nd (nd z0 (some f738) z0) (some f482) (nd z0 (some f994) z0))
noncomputable def k5T : T Func := nd k5R (some f98) k5S
noncomputable def k5U : T Func := nd k5Q (some f34) k5T
noncomputable def k5V : T Func := nd (nd (nd (lf f1042) (some f530) z0) (some f274) (nd z0 (some f786) z0)) (some f146) (nd (nd z0 (some f658) z0) (some f402) (nd z0 (some f914) z0))
noncomputable def k5W : T Func := nd (nd (nd z0 (some f594) z0) (some f338) (nd z0 (some f850) z0)) (some f210) (nd (nd z0 (some f722) z0) (some f466) (nd z0 (some f978) z0))
noncomputable def k5X : T Func := nd k5V (some f82) k5W
noncomputable def k5Y : T Func := nd (nd (nd (lf f1074) (some f562) z0) (some f306) (nd z0 (some f818) z0)) (some f178) (nd (nd z0 (some f690) z0) (some f434) (nd z0 (some f946) z0))
noncomputable def k5Z : T Func := nd (nd (nd z0 (some f626) z0) (some f370) (nd z0 (some f882) z0)) (some f242) (nd (nd z0 (some f754) z0) (some f498) (nd z0 (some f1010) z0))
noncomputable def k6a : T Func := nd k5Y (some f114) k5Z
noncomputable def k6b : T Func := nd k5X (some f50) k6a
noncomputable def k6c : T Func := nd k5U (some f18) k6b
noncomputable def k6d : T Func := nd (nd (nd (lf f1034) (some f522) z0) (some f266) (nd z0 (some f778) z0)) (some f138) (nd (nd z0 (some f650) z0) (some f394) (nd z0 (some f906) z0))
noncomputable def k6e : T Func := nd (nd (nd z0 (some f586) z0) (some f330) (nd z0 (some f842) z0)) (some f202) (nd (nd z0 (some f714) z0) (some f458) (nd z0 (some f970) z0))
noncomputable def k6f : T Func := nd k6d (some f74) k6e
noncomputable def k6g : T Func := nd (nd (nd (lf f1066) (some f554) z0) (some f298) (nd z0 (some f810) z0)) (some f170) (nd (nd z0 (some f682) z0) (some f426) (nd z0 (some f938) z0))
noncomputable def k6h : T Func := nd (nd (nd z0 (some f618) z0) (some f362) (nd z0 (some f874) z0)) (some f234) (nd (nd z0 (some f746) z0) (some f490) (nd z0 (some f1002) z0))
noncomputable def k6i : T Func := nd k6g (some f106) k6h
noncomputable def k6j : T Func := nd k6f (some f42) k6i
noncomputable def k6k : T Func := nd (nd (nd (lf f1050) (some f538) z0) (some f282) (nd z0 (some f794) z0)) (some f154) (nd (nd z0 (some f666) z0) (some f410) (nd z0 (some f922) z0))
noncomputable def k6l : T Func := nd (nd (nd z0 (some f602) z0) (some f346) (nd z0 (some f858) z0)) (some f218) (nd (nd z0 (some f730) z0) (some f474) (nd z0 (some f986) z0))
noncomputable def k6m : T Func := nd k6k (some f90) k6l
noncomputable def k6n : T Func := nd (nd (nd (lf f1082) (some f570) z0) (some f314) (nd z0 (some f826) z0)) (some f186) (nd (nd z0 (some f698) z0) (some f442) (nd z0 (some f954) z0))
noncomputable def k6o : T Func := nd (nd (nd z0 (some f634) z0) (some f378) (nd z0 (some f890) z0)) (some f250) (nd (nd z0 (some f762) z0) (some f506) (nd z0 (some f1018) z0))
noncomputable def k6p : T Func := nd k6n (some f122) k6o
noncomputable def k6q : T Func := nd k6m (some f58) k6p
noncomputable def k6r : T Func := nd k6j (some f26) k6q
noncomputable def k6s : T Func := nd k6c (some f10) k6r
noncomputable def k6t : T Func := nd (nd (nd (lf f1030) (some f518) z0) (some f262) (nd z0 (some f774) z0)) (some f134) (nd (nd z0 (some f646) z0) (some f390) (nd z0 (some f902) z0))
noncomputable def k6u : T Func := nd (nd (nd (lf f1094) (some f582) z0) (some f326) (nd z0 (some f838) z0)) (some f198) (nd (nd z0 (some f710) z0) (some f454) (nd z0 (some f966) z0))
noncomputable def k6v : T Func := nd k6t (some f70) k6u
noncomputable def k6w : T Func := nd (nd (nd (lf f1062) (some f550) z0) (some f294) (nd z0 (some f806) z0)) (some f166) (nd (nd z0 (some f678) z0) (some f422) (nd z0 (some f934) z0))
noncomputable def k6x : T Func := nd (nd (nd z0 (some f614) z0) (some f358) (nd z0 (some f870) z0)) (some f230) (nd (nd z0 (some f742) z0) (some f486) (nd z0 (some f998) z0))
noncomputable def k6y : T Func := nd k6w (some f102) k6x
noncomputable def k6z : T Func := nd k6v (some f38) k6y
noncomputable def k6A : T Func := nd (nd (nd (lf f1046) (some f534) z0) (some f278) (nd z0 (some f790) z0)) (some f150) (nd (nd z0 (some f662) z0) (some f406) (nd z0 (some f918) z0))
noncomputable def k6B : T Func := nd (nd (nd z0 (some f598) z0) (some f342) (nd z0 (some f854) z0)) (some f214) (nd (nd z0 (some f726) z0) (some f470) (nd z0 (some f982) z0))
noncomputable def k6C : T Func := nd k6A (some f86) k6B
noncomputable def k6D : T Func := nd (nd (nd (lf f1078) (some f566) z0) (some f310) (nd z0 (some f822) z0)) (some f182) (nd (nd z0 (some f694) z0) (some f438) (nd z0 (some f950) z0))
noncomputable def k6E : T Func := nd (nd (nd z0 (some f630) z0) (some f374) (nd z0 (some f886) z0)) (some f246) (nd (nd z0 (some f758) z0) (some f502) (nd z0 (some f1014) z0))
noncomputable def k6F : T Func := nd k6D (some f118) k6E
noncomputable def k6G : T Func := nd k6C (some f54) k6F
noncomputable def k6H : T Func := nd k6z (some f22) k6G
noncomputable def k6I : T Func := nd (nd (nd (lf f1038) (some f526) z0) (some f270) (nd z0 (some f782) z0)) (some f142) (nd (nd z0 (some f654) z0) (some f398) (nd z0 (some f910) z0))
noncomputable def k6J : T Func := nd (nd (nd z0 (some f590) z0) (some f334) (nd z0 (some f846) z0)) (some f206) (nd (nd z0 (some f718) z0) (some f462) (nd z0 (some f974) z0))
noncomputable def k6K : T Func := nd k6I (some f78) k6J
noncomputable def k6L : T Func := nd (nd (nd (lf f1070) (some f558) z0) (some f302) (nd z0 (some f814) z0)) (some f174) (nd (nd z0 (some f686) z0) (some f430) (nd z0 (some f942) z0))
noncomputable def k6M : T Func := nd (nd (nd z0 (some f622) z0) (some f366) (nd z0 (some f878) z0)) (some f238) (nd (nd z0 (some f750) z0) (some f494) (nd z0 (some f1006) z0))
noncomputable def k6N : T Func := nd k6L (some f110) k6M
noncomputable def k6O : T Func := nd k6K (some f46) k6N
noncomputable def k6P : T Func := nd (nd (nd (lf f1054) (some f542) z0) (some f286) (nd z0 (some f798) z0)) (some f158) (nd (nd z0 (some f670) z0) (some f414) (nd z0 (some f926) z0))
noncomputable def k6Q : T Func := nd (nd (nd z0 (some f606) z0) (some f350) (nd z0 (some f862) z0)) (some f222) (nd (nd z0 (some f734) z0) (some f478) (nd z0 (some f990) z0))
noncomputable def k6R : T Func := nd k6P (some f94) k6Q
noncomputable def k6S : T Func := nd (nd (nd (lf f1086) (some f574) z0) (some f318) (nd z0 (some f830) z0)) (some f190) (nd (nd z0 (some f702) z0) (some f446) (nd z0 (some f958) z0))
noncomputable def k6T : T Func := nd (nd (nd z0 (some f638) z0) (some f382) (nd z0 (some f894) z0)) (some f254) (nd (nd z0 (some f766) z0) (some f510) (nd z0 (some f1022) z0))
noncomputable def k6U : T Func := nd k6S (some f126) k6T
noncomputable def k6V : T Func := nd k6R (some f62) k6U
noncomputable def k6W : T Func := nd k6O (some f30) k6V
noncomputable def k6X : T Func := nd k6H (some f14) k6W
noncomputable def k6Y : T Func := nd k6s (some f6) k6X
noncomputable def k6Z : T Func := nd k5N (some f2) k6Y
noncomputable def k7a : T Func := nd k4C (some f0) k6Z
noncomputable def k7b : T TypeInfo := nd (nd (nd (lf t1023) (some t511) z0) (some t255) (nd z0 (some t767) z0)) (some t127) (nd (nd z0 (some t639) z0) (some t383) (nd z0 (some t895) z0))
noncomputable def k7c : T TypeInfo := nd (nd (nd (lf t1087) (some t575) z0) (some t319) (nd z0 (some t831) z0)) (some t191) (nd (nd z0 (some t703) z0) (some t447) (nd z0 (some t959) z0))
noncomputable def k7d : T TypeInfo := nd k7b (some t63) k7c
noncomputable def k7e : T TypeInfo := nd (nd (nd (lf t1055) (some t543) z0) (some t287) (nd z0 (some t799) z0)) (some t159) (nd (nd z0 (some t671) z0) (some t415) (nd z0 (some t927) z0))
noncomputable def k7f : T TypeInfo := nd (nd (nd (lf t1119) (some t607) z0) (some t351) (nd z0 (some t863) z0)) (some t223) (nd (nd z0 (some t735) z0) (some t479) (nd z0 (some t991) z0))
noncomputable def k7g : T TypeInfo := nd k7e (some t95) k7f
noncomputable def k7h : T TypeInfo := nd k7d (some t31) k7g
noncomputable def k7i : T TypeInfo := nd (nd (nd (lf t1039) (some t527) z0) (some t271) (nd z0 (some t783) z0)) (some t143) (nd (nd z0 (some t655) z0) (some t399) (nd z0 (some t911) z0))
noncomputable def k7j : T TypeInfo := nd (nd (nd (lf t1103) (some t591) z0) (some t335) (nd z0 (some t847) z0)) (some t207) (nd (nd z0 (some t719) z0) (some t463) (nd z0 (some t975) z0))
noncomputable def k7k : T TypeInfo := nd k7i (some t79) k7j
noncomputable def k7l : T TypeInfo := nd (nd (nd (lf t1071) (some t559) z0) (some t303) (nd z0 (some t815) z0)) (some t175) (nd (nd z0 (some t687) z0) (some t431) (nd z0 (some t943) z0))
noncomputable def k7m : T TypeInfo := nd (nd (nd z0 (some t623) z0) (some t367) (nd z0 (some t879) z0)) (some t239) (nd (nd z0 (some t751) z0) (some t495) (nd z0 (some t1007) z0))
noncomputable def k7n : T TypeInfo := nd k7l (some t111) k7m
noncomputable def k7o : T TypeInfo := nd k7k (some t47) k7n
noncomputable def k7p : T TypeInfo := nd k7h (some t15) k7o
noncomputable def k7q : T TypeInfo := nd (nd (nd (lf t1031) (some t519) z0) (some t263) (nd z0 (some t775) z0)) (some t135) (nd (nd z0 (some t647) z0) (some t391) (nd z0 (some t903) z0))
noncomputable def k7r : T TypeInfo := nd (nd (nd (lf t1095) (some t583) z0) (some t327) (nd z0 (some t839) z0)) (some t199) (nd (nd z0 (some t711) z0) (some t455) (nd z0 (some t967) z0))
noncomputable def k7s : T TypeInfo := nd k7q (some t71) k7r
noncomputable def k7t : T TypeInfo := nd (nd (nd (lf t1063) (some t551) z0) (some t295) (nd z0 (some t807) z0)) (some t167) (nd (nd z0 (some t679) z0) (some t423) (nd z0 (some t935) z0))
noncomputable def k7u : T TypeInfo := nd (nd (nd z0 (some t615) z0) (some t359) (nd z0 (some t871) z0)) (some t231) (nd (nd z0 (some t743) z0) (some t487) (nd z0 (some t999) z0))
noncomputable def k7v : T TypeInfo := nd k7t (some t103) k7u
noncomputable def k7w : T TypeInfo := nd k7s (some t39) k7v
noncomputable def k7x : T TypeInfo := nd (nd (nd (lf t1047) (some t535) z0) (some t279) (nd z0 (some t791) z0)) (some t151) (nd (nd z0 (some t663) z0) (some t407) (nd z0 (some t919) z0))
noncomputable def k7y : T TypeInfo := nd (nd (nd (lf t1111) (some t599) z0) (some t343) (nd z0 (some t855) z0)) (some t215) (nd (nd z0 (some t727) z0) (some t471) (nd z0 (some t983) z0))
noncomputable def k7z : T TypeInfo := nd k7x (some t87) k7y
noncomputable def k7A : T TypeInfo := nd (nd (nd (lf t1079) (some t567) z0) (some t311) (nd z0 (some t823) z0)) (some t183) (nd (nd z0 (some t695) z0) (some t439) (nd z0 (some t951) z0))
noncomputable def k7B : T TypeInfo := nd (nd (nd z0 (some t631) z0) (some t375) (nd z0 (some t887) z0)) (some t247) (nd (nd z0 (some t759) z0) (some t503) (nd z0 (some t1015) z0))
noncomputable def k7C : T TypeInfo := nd k7A (some t119) k7B
noncomputable def k7D : T TypeInfo := nd k7z (some t55) k7C
noncomputable def k7E : T TypeInfo := nd k7w (some t23) k7D
noncomputable def k7F : T TypeInfo := nd k7p (some t7) k7E
noncomputable def k7G : T TypeInfo := nd (nd (nd (lf t1027) (some t515) z0) (some t259) (nd z0 (some t771) z0)) (some t131) (nd (nd z0 (some t643) z0) (some t387) (nd z0 (some t899) z0))
noncomputable def k7H : T TypeInfo := nd (nd (nd (lf t1091) (some t579) z0) (some t323) (nd z0 (some t835) z0)) (some t195) (nd (nd z0 (some t707) z0) (some t451) (nd z0 (some t963) z0))
noncomputable def k7I : T TypeInfo := nd k7G (some t67) k7H
noncomputable def k7J : T TypeInfo := nd (nd (nd (lf t1059) (some t547) z0) (some t291) (nd z0 (some t803) z0)) (some t163) (nd (nd z0 (some t675) z0) (some t419) (nd z0 (some t931) z0))
noncomputable def k7K : T TypeInfo := nd (nd (nd z0 (some t611) z0) (some t355) (nd z0 (some t867) z0)) (some t227) (nd (nd z0 (some t739) z0) (some t483) (nd z0 (some t995) z0))
noncomputable def k7L : T TypeInfo := nd k7J (some t99) k7K
noncomputable def k7M : T TypeInfo := nd k7I (some t35) k7L
noncomputable def k7N : T TypeInfo := nd (nd (nd (lf t1043) (some t531) z0) (some t275) (nd z0 (some t787) z0)) (some t147) (nd (nd z0 (some t659) z0) (some t403) (nd z0 (some t915) z0))
noncomputable def k7O : T TypeInfo := nd (nd (nd (lf t1107) (some t595) z0) (some t339) (nd z0 (some t851) z0)) (some t211) (nd (nd z0 (some t723) z0) (some t467) (nd z0 (some t979) z0))
noncomputable def k7P : T TypeInfo := nd k7N (some t83) k7O
noncomputable def k7Q : T TypeInfo := nd (nd (nd z0 (some t563) z0) (some t307) (nd z0 (some t819) z0)) (some t179) (nd (nd z0 (some t691) z0) (some t435) (nd z0 (some t947) z0))
noncomputable def k7R : T TypeInfo := nd (nd (nd z0 (some t627) z0) (some t371) (nd z0 (some t883) z0)) (some t243) (nd (nd z0 (some t755) z0) (some t499) (nd z0 (some t1011) z0))
noncomputable def k7S : T TypeInfo := nd k7Q (some t115) k7R
noncomputable def k7T : T TypeInfo := nd k7P (some t51) k7S
noncomputable def k7U : T TypeInfo := nd k7M none k7T
noncomputable def k7V : T TypeInfo := nd (nd (nd (lf t1035) (some t523) z0) (some t267) (nd z0 (some t779) z0)) (some t139) (nd (nd z0 (some t651) z0) (some t395) (nd z0 (some t907) z0))
noncomputable def k7W : T TypeInfo := nd (nd (nd (lf t1099) (some t587) z0) (some t331) (nd z0 (some t843) z0)) (some t203) (nd (nd z0 (some t715) z0) (some t459) (nd z0 (some t971) z0))
noncomputable def k7X : T TypeInfo := nd k7V (some t75) k7W
noncomputable def k7Y : T TypeInfo := nd (nd (nd (lf t1067) (some t555) z0) (some t299) (nd z0 (some t811) z0)) (some t171) (nd (nd z0 (some t683) z0) (some t427) (nd z0 (some t939) z0))
noncomputable def k7Z : T TypeInfo := nd (nd (nd z0 (some t619) z0) (some t363) (nd z0 (some t875) z0)) (some t235) (nd (nd z0 (some t747) z0) (some t491) (nd z0 (some t1003) z0))
noncomputable def k8a : T TypeInfo := nd k7Y (some t107) k7Z
noncomputable def k8b : T TypeInfo := nd k7X (some t43) k8a
noncomputable def k8c : T TypeInfo := nd (nd (nd (lf t1051) (some t539) z0) (some t283) (nd z0 (some t795) z0)) (some t155) (nd (nd z0 (some t667) z0) (some t411) (nd z0 (some t923) z0))
noncomputable def k8d : T TypeInfo := nd (nd (nd (lf t1115) (some t603) z0) (some t347) (nd z0 (some t859) z0)) (some t219) (nd (nd z0 (some t731) z0) (some t475) (nd z0 (some t987) z0))
noncomputable def k8e : T TypeInfo := nd k8c (some t91) k8d
noncomputable def k8f : T TypeInfo := nd (nd (nd (lf t1083) (some t571) z0) (some t315) (nd z0 (some t827) z0)) (some t187) (nd (nd z0 (some t699) z0) (some t443) (nd z0 (some t955) z0))
noncomputable def k8g : T TypeInfo := nd (nd (nd z0 (some t635) z0) (some t379) (nd z0 (some t891) z0)) (some t251) (nd (nd z0 (some t763) z0) (some t507) (nd z0 (some t1019) z0))
noncomputable def k8h : T TypeInfo := nd k8f (some t123) k8g
noncomputable def k8i : T TypeInfo := nd k8e (some t59) k8h
noncomputable def k8j : T TypeInfo := nd k8b (some t27) k8i
noncomputable def k8k : T TypeInfo := nd k7U (some t11) k8j
noncomputable def k8l : T TypeInfo := nd k7F (some t3) k8k
noncomputable def k8m : T TypeInfo := nd (nd (nd (lf t1025) (some t513) z0) (some t257) (nd z0 (some t769) z0)) (some t129) (nd (nd z0 (some t641) z0) (some t385) (nd z0 (some t897) z0))
noncomputable def k8n : T TypeInfo := nd (nd (nd (lf t1089) (some t577) z0) (some t321) (nd z0 (some t833) z0)) (some t193) (nd (nd z0 (some t705) z0) (some t449) (nd z0 (some t961) z0))
noncomputable def k8o : T TypeInfo := nd k8m (some t65) k8n
noncomputable def k8p : T TypeInfo := nd (nd (nd (lf t1057) (some t545) z0) (some t289) (nd z0 (some t801) z0)) (some t161) (nd (nd z0 (some t673) z0) (some t417) (nd z0 (some t929) z0))
noncomputable def k8q : T TypeInfo := nd (nd (nd z0 (some t609) z0) (some t353) (nd z0 (some t865) z0)) (some t225) (nd (nd z0 (some t737) z0) (some t481) (nd z0 (some t993) z0))
noncomputable def k8r : T TypeInfo := nd k8p (some t97) k8q
noncomputable def k8s : T TypeInfo := nd k8o (some t33) k8r
noncomputable def k8t : T TypeInfo := nd (nd (nd (lf t1041) (some t529) z0) (some t273) (nd z0 (some t785) z0)) (some t145) (nd (nd z0 (some t657) z0) (some t401) (nd z0 (some t913) z0))
noncomputable def k8u : T TypeInfo := nd (nd (nd (lf t1105) (some t593) z0) (some t337) (nd z0 (some t849) z0)) (some t209) (nd (nd z0 (some t721) z0) (some t465) (nd z0 (some t977) z0))
noncomputable def k8v : T TypeInfo := nd k8t (some t81) k8u
noncomputable def k8w : T TypeInfo := nd (nd (nd (lf t1073) (some t561) z0) (some t305) (nd z0 (some t817) z0)) (some t177) (nd (nd z0 (some t689) z0) (some t433) (nd z0 (some t945) z0))
noncomputable def k8x : T TypeInfo := nd (nd (nd z0 (some t625) z0) (some t369) (nd z0 (some t881) z0)) (some t241) (nd (nd z0 (some t753) z0) (some t497) (nd z0 (some t1009) z0))
noncomputable def k8y : T TypeInfo := nd k8w (some t113) k8x
noncomputable def k8z : T TypeInfo := nd k8v (some t49) k8y
noncomputable def k8A : T TypeInfo := nd k8s (some t17) k8z
noncomputable def k8B : T TypeInfo := nd (nd (nd (lf t1033) (some t521) z0) (some t265) (nd z0 (some t777) z0)) (some t137) (nd (nd z0 (some t649) z0) (some t393) (nd z0 (some t905) z0))
noncomputable def k8C : T TypeInfo := nd (nd (nd (lf t1097) (some t585) z0) (some t329) (nd z0 (some t841) z0)) (some t201) (nd (nd z0 (some t713) z0) (some t457) (nd z0 (some t969) z0))
noncomputable def k8D : T TypeInfo := nd k8B (some t73) k8C
noncomputable def k8E : T TypeInfo := nd (nd (nd z0 (some t553) z0) (some t297) (nd z0 (some t809) z0)) (some t169) (nd (nd z0 (some t681) z0) (some t425) (nd z0 (some t937) z0))
noncomputable def k8F : T TypeInfo := nd (nd (nd z0 (some t617) z0) (some t361) (nd z0 (some t873) z0)) (some t233) (nd (nd z0 (some t745) z0) (some t489) (nd z0 (some t1001) z0))
noncomputable def k8G : T TypeInfo := nd k8E (some t105) k8F
noncomputable def k8H : T TypeInfo := nd k8D (some t41) k8G
noncomputable def k8I : T TypeInfo := nd (nd (nd (lf t1049) (some t537) z0) (some t281) (nd z0 (some t793) z0)) (some t153) (nd (nd z0 (some t665) z0) (some t409) (nd z0 (some t921) z0))
noncomputable def k8J : T TypeInfo := nd (nd (nd (lf t1113) (some t601) z0) (some t345) (nd z0 (some t857) z0)) (some t217) (nd (nd z0 (some t729) z0) (some t473) (nd z0 (some t985) z0))
noncomputable def k8K : T TypeInfo := nd k8I (some t89) k8J
noncomputable def k8L : T TypeInfo := nd (nd (nd (lf t1081) (some t569) z0) (some t313) (nd z0 (some t825) z0)) (some t185) (nd (nd z0 (some t697) z0) (some t441) (nd z0 (some t953) z0))
noncomputable def k8M : T TypeInfo := nd (nd (nd z0 (some t633) z0) (some t377) (nd z0 (some t889) z0)) (some t249) (nd (nd z0 (some t761) z0) (some t505) (nd z0 (some t1017) z0))
noncomputable def k8N : T TypeInfo := nd k8L (some t121) k8M
noncomputable def k8O : T TypeInfo := nd k8K (some t57) k8N
noncomputable def k8P : T TypeInfo := nd k8H (some t25) k8O
noncomputable def k8Q : T TypeInfo := nd k8A (some t9) k8P
noncomputable def k8R : T TypeInfo := nd (nd (nd (lf t1029) (some t517) z0) (some t261) (nd z0 (some t773) z0)) (some t133) (nd (nd z0 (some t645) z0) (some t389) (nd z0 (some t901) z0))
noncomputable def k8S : T TypeInfo := nd (nd (nd (lf t1093) (some t581) z0) (some t325) (nd z0 (some t837) z0)) (some t197) (nd (nd z0 (some t709) z0) (some t453) (nd z0 (some t965) z0))
noncomputable def k8T : T TypeInfo := nd k8R (some t69) k8S
noncomputable def k8U : T TypeInfo := nd (nd (nd (lf t1061) (some t549) z0) (some t293) (nd z0 (some t805) z0)) (some t165) (nd (nd z0 (some t677) z0) (some t421) (nd z0 (some t933) z0))
noncomputable def k8V : T TypeInfo := nd (nd (nd z0 (some t613) z0) (some t357) (nd z0 (some t869) z0)) (some t229) (nd (nd z0 (some t741) z0) (some t485) (nd z0 (some t997) z0))
noncomputable def k8W : T TypeInfo := nd k8U (some t101) k8V
noncomputable def k8X : T TypeInfo := nd k8T (some t37) k8W
noncomputable def k8Y : T TypeInfo := nd (nd (nd (lf t1045) (some t533) z0) (some t277) (nd z0 (some t789) z0)) (some t149) (nd (nd z0 (some t661) z0) (some t405) (nd z0 (some t917) z0))
noncomputable def k8Z : T TypeInfo := nd (nd (nd (lf t1109) (some t597) z0) (some t341) (nd z0 (some t853) z0)) (some t213) (nd (nd z0 (some t725) z0) (some t469) (nd z0 (some t981) z0))
noncomputable def k9a : T TypeInfo := nd k8Y (some t85) k8Z
noncomputable def k9b : T TypeInfo := nd (nd (nd (lf t1077) (some t565) z0) (some t309) (nd z0 (some t821) z0)) (some t181) (nd (nd z0 (some t693) z0) (some t437) (nd z0 (some t949) z0))
noncomputable def k9c : T TypeInfo := nd (nd (nd z0 (some t629) z0) (some t373) (nd z0 (some t885) z0)) (some t245) (nd (nd z0 (some t757) z0) (some t501) (nd z0 (some t1013) z0))
noncomputable def k9d : T TypeInfo := nd k9b (some t117) k9c
noncomputable def k9e : T TypeInfo := nd k9a (some t53) k9d
noncomputable def k9f : T TypeInfo := nd k8X (some t21) k9e
noncomputable def k9g : T TypeInfo := nd (nd (nd (lf t1037) (some t525) z0) (some t269) (nd z0 (some t781) z0)) (some t141) (nd (nd z0 (some t653) z0) (some t397) (nd z0 (some t909) z0))
noncomputable def k9h : T TypeInfo := nd (nd (nd (lf t1101) (some t589) z0) (some t333) (nd z0 (some t845) z0)) (some t205) (nd (nd z0 (some t717) z0) (some t461) (nd z0 (some t973) z0))
noncomputable def k9i : T TypeInfo := nd k9g (some t77) k9h
noncomputable def k9j : T TypeInfo := nd (nd (nd z0 (some t557) z0) (some t301) (nd z0 (some t813) z0)) (some t173) (nd (nd z0 (some t685) z0) (some t429) (nd z0 (some t941) z0))
noncomputable def k9k : T TypeInfo := nd (nd (nd z0 (some t621) z0) (some t365) (nd z0 (some t877) z0)) (some t237) (nd (nd z0 (some t749) z0) (some t493) (nd z0 (some t1005) z0))
noncomputable def k9l : T TypeInfo := nd k9j (some t109) k9k
noncomputable def k9m : T TypeInfo := nd k9i (some t45) k9l
noncomputable def k9n : T TypeInfo := nd (nd (nd (lf t1053) (some t541) z0) (some t285) (nd z0 (some t797) z0)) (some t157) (nd (nd z0 (some t669) z0) (some t413) (nd z0 (some t925) z0))
noncomputable def k9o : T TypeInfo := nd (nd (nd (lf t1117) (some t605) z0) (some t349) (nd z0 (some t861) z0)) (some t221) (nd (nd z0 (some t733) z0) (some t477) (nd z0 (some t989) z0))
noncomputable def k9p : T TypeInfo := nd k9n (some t93) k9o
noncomputable def k9q : T TypeInfo := nd (nd (nd (lf t1085) (some t573) z0) (some t317) (nd z0 (some t829) z0)) (some t189) (nd (nd z0 (some t701) z0) (some t445) (nd z0 (some t957) z0))
noncomputable def k9r : T TypeInfo := nd (nd (nd z0 (some t637) z0) (some t381) (nd z0 (some t893) z0)) (some t253) (nd (nd z0 (some t765) z0) (some t509) (nd z0 (some t1021) z0))
noncomputable def k9s : T TypeInfo := nd k9q (some t125) k9r
noncomputable def k9t : T TypeInfo := nd k9p (some t61) k9s
noncomputable def k9u : T TypeInfo := nd k9m (some t29) k9t
noncomputable def k9v : T TypeInfo := nd k9f none k9u
noncomputable def k9w : T TypeInfo := nd k8Q (some t5) k9v
noncomputable def k9x : T TypeInfo := nd k8l (some t1) k9w
noncomputable def k9y : T TypeInfo := nd (nd (nd (lf t1024) (some t512) z0) (some t256) (nd z0 (some t768) z0)) (some t128) (nd (nd z0 (some t640) z0) (some t384) (nd z0 (some t896) z0))
noncomputable def k9z : T TypeInfo := nd (nd (nd (lf t1088) (some t576) z0) (some t320) (nd z0 (some t832) z0)) (some t192) (nd (nd z0 (some t704) z0) (some t448) (nd z0 (some t960) z0))
noncomputable def k9A : T TypeInfo := nd k9y (some t64) k9z
noncomputable def k9B : T TypeInfo := nd (nd (nd (lf t1056) (some t544) z0) (some t288) (nd z0 (some t800) z0)) (some t160) (nd (nd z0 (some t672) z0) (some t416) (nd z0 (some t928) z0))
noncomputable def k9C : T TypeInfo := nd (nd (nd (lf t1120) (some t608) z0) (some t352) (nd z0 (some t864) z0)) (some t224) (nd (nd z0 (some t736) z0) (some t480) (nd z0 (some t992) z0))
noncomputable def k9D : T TypeInfo := nd k9B (some t96) k9C
noncomputable def k9E : T TypeInfo := nd k9A (some t32) k9D
noncomputable def k9F : T TypeInfo := nd (nd (nd (lf t1040) (some t528) z0) (some t272) (nd z0 (some t784) z0)) (some t144) (nd (nd z0 (some t656) z0) (some t400) (nd z0 (some t912) z0))
noncomputable def k9G : T TypeInfo := nd (nd (nd (lf t1104) (some t592) z0) (some t336) (nd z0 (some t848) z0)) (some t208) (nd (nd z0 (some t720) z0) (some t464) (nd z0 (some t976) z0))
noncomputable def k9H : T TypeInfo := nd k9F (some t80) k9G
noncomputable def k9I : T TypeInfo := nd (nd (nd (lf t1072) (some t560) z0) (some t304) (nd z0 (some t816) z0)) (some t176) (nd (nd z0 (some t688) z0) (some t432) (nd z0 (some t944) z0))
noncomputable def k9J : T TypeInfo := nd (nd (nd z0 (some t624) z0) (some t368) (nd z0 (some t880) z0)) (some t240) (nd (nd z0 (some t752) z0) (some t496) (nd z0 (some t1008) z0))
noncomputable def k9K : T TypeInfo := nd k9I (some t112) k9J
noncomputable def k9L : T TypeInfo := nd k9H (some t48) k9K
noncomputable def k9M : T TypeInfo := nd k9E (some t16) k9L
noncomputable def k9N : T TypeInfo := nd (nd (nd (lf t1032) (some t520) z0) (some t264) (nd z0 (some t776) z0)) (some t136) (nd (nd z0 (some t648) z0) (some t392) (nd z0 (some t904) z0))
noncomputable def k9O : T TypeInfo := nd (nd (nd (lf t1096) (some t584) z0) (some t328) (nd z0 (some t840) z0)) (some t200) (nd (nd z0 (some t712) z0) (some t456) (nd z0 (some t968) z0))
noncomputable def k9P : T TypeInfo := nd k9N (some t72) k9O
noncomputable def k9Q : T TypeInfo := nd (nd (nd (lf t1064) (some t552) z0) (some t296) (nd z0 (some t808) z0)) (some t168) (nd (nd z0 (some t680) z0) (some t424) (nd z0 (some t936) z0))
noncomputable def k9R : T TypeInfo := nd (nd (nd z0 (some t616) z0) (some t360) (nd z0 (some t872) z0)) (some t232) (nd (nd z0 (some t744) z0) (some t488) (nd z0 (some t1000) z0))
noncomputable def k9S : T TypeInfo := nd k9Q (some t104) k9R
noncomputable def k9T : T TypeInfo := nd k9P (some t40) k9S
noncomputable def k9U : T TypeInfo := nd (nd (nd (lf t1048) (some t536) z0) (some t280) (nd z0 (some t792) z0)) (some t152) (nd (nd z0 (some t664) z0) (some t408) (nd z0 (some t920) z0))
noncomputable def k9V : T TypeInfo := nd (nd (nd (lf t1112) (some t600) z0) (some t344) (nd z0 (some t856) z0)) (some t216) (nd (nd z0 (some t728) z0) (some t472) (nd z0 (some t984) z0))
noncomputable def k9W : T TypeInfo := nd k9U (some t88) k9V
noncomputable def k9X : T TypeInfo := nd (nd (nd (lf t1080) (some t568) z0) (some t312) (nd z0 (some t824) z0)) (some t184) (nd (nd z0 (some t696) z0) (some t440) (nd z0 (some t952) z0))
noncomputable def k9Y : T TypeInfo := nd (nd (nd z0 (some t632) z0) (some t376) (nd z0 (some t888) z0)) (some t248) (nd (nd z0 (some t760) z0) (some t504) (nd z0 (some t1016) z0))
noncomputable def k9Z : T TypeInfo := nd k9X (some t120) k9Y
noncomputable def w0a : T TypeInfo := nd k9W (some t56) k9Z
noncomputable def w0b : T TypeInfo := nd k9T (some t24) w0a
noncomputable def w0c : T TypeInfo := nd k9M (some t8) w0b
noncomputable def w0d : T TypeInfo := nd (nd (nd (lf t1028) (some t516) z0) (some t260) (nd z0 (some t772) z0)) (some t132) (nd (nd z0 (some t644) z0) (some t388) (nd z0 (some t900) z0))
noncomputable def w0e : T TypeInfo := nd (nd (nd (lf t1092) (some t580) z0) (some t324) (nd z0 (some t836) z0)) (some t196) (nd (nd z0 (some t708) z0) (some t452) (nd z0 (some t964) z0))
noncomputable def w0f : T TypeInfo := nd w0d (some t68) w0e
noncomputable def w0g : T TypeInfo := nd (nd (nd (lf t1060) (some t548) z0) (some t292) (nd z0 (some t804) z0)) (some t164) (nd (nd z0 (some t676) z0) (some t420) (nd z0 (some t932) z0))
noncomputable def w0h : T TypeInfo := nd (nd (nd z0 (some t612) z0) (some t356) (nd z0 (some t868) z0)) (some t228) (nd (nd z0 (some t740) z0) (some t484) (nd z0 (some t996) z0))
noncomputable def w0i : T TypeInfo := nd w0g (some t100) w0h
noncomputable def w0j : T TypeInfo := nd w0f (some t36) w0i
noncomputable def w0k : T TypeInfo := nd (nd (nd (lf t1044) (some t532) z0) (some t276) (nd z0 (some t788) z0)) (some t148) (nd (nd z0 (some t660) z0) (some t404) (nd z0 (some t916) z0))
noncomputable def w0l : T TypeInfo := nd (nd (nd (lf t1108) (some t596) z0) (some t340) (nd z0 (some t852) z0)) (some t212) (nd (nd z0 (some t724) z0) (some t468) (nd z0 (some t980) z0))
noncomputable def w0m : T TypeInfo := nd w0k (some t84) w0l
noncomputable def w0n : T TypeInfo := nd (nd (nd z0 (some t564) z0) (some t308) (nd z0 (some t820) z0)) (some t180) (nd (nd z0 (some t692) z0) (some t436) (nd z0 (some t948) z0))
noncomputable def w0o : T TypeInfo := nd (nd (nd z0 (some t628) z0) (some t372) (nd z0 (some t884) z0)) (some t244) (nd (nd z0 (some t756) z0) (some t500) (nd z0 (some t1012) z0))
noncomputable def w0p : T TypeInfo := nd w0n (some t116) w0o
noncomputable def w0q : T TypeInfo := nd w0m (some t52) w0p
noncomputable def w0r : T TypeInfo := nd w0j (some t20) w0q
noncomputable def w0s : T TypeInfo := nd (nd (nd (lf t1036) (some t524) z0) (some t268) (nd z0 (some t780) z0)) (some t140) (nd (nd z0 (some t652) z0) (some t396) (nd z0 (some t908) z0))
noncomputable def w0t : T TypeInfo := nd (nd (nd (lf t1100) (some t588) z0) (some t332) (nd z0 (some t844) z0)) (some t204) (nd (nd z0 (some t716) z0) (some t460) (nd z0 (some t972) z0))
noncomputable def w0u : T TypeInfo := nd w0s (some t76) w0t
noncomputable def w0v : T TypeInfo := nd (nd (nd z0 (some t556) z0) (some t300) (nd z0 (some t812) z0)) (some t172) (nd (nd z0 (some t684) z0) (some t428) (nd z0 (some t940) z0))
noncomputable def w0w : T TypeInfo := nd (nd (nd z0 (some t620) z0) (some t364) (nd z0 (some t876) z0)) (some t236) (nd (nd z0 (some t748) z0) (some t492) (nd z0 (some t1004) z0))
noncomputable def w0x : T TypeInfo := nd w0v (some t108) w0w
noncomputable def w0y : T TypeInfo := nd w0u (some t44) w0x
noncomputable def w0z : T TypeInfo := nd (nd (nd (lf t1052) (some t540) z0) (some t284) (nd z0 (some t796) z0)) (some t156) (nd (nd z0 (some t668) z0) (some t412) (nd z0 (some t924) z0))
noncomputable def w0A : T TypeInfo := nd (nd (nd (lf t1116) (some t604) z0) (some t348) (nd z0 (some t860) z0)) (some t220) (nd (nd z0 (some t732) z0) (some t476) (nd z0 (some t988) z0))
noncomputable def w0B : T TypeInfo := nd w0z (some t92) w0A
noncomputable def w0C : T TypeInfo := nd (nd (nd (lf t1084) (some t572) z0) (some t316) (nd z0 (some t828) z0)) (some t188) (nd (nd z0 (some t700) z0) (some t444) (nd z0 (some t956) z0))
noncomputable def w0D : T TypeInfo := nd (nd (nd z0 (some t636) z0) (some t380) (nd z0 (some t892) z0)) (some t252) (nd (nd z0 (some t764) z0) (some t508) (nd z0 (some t1020) z0))
noncomputable def w0E : T TypeInfo := nd w0C (some t124) w0D
noncomputable def w0F : T TypeInfo := nd w0B (some t60) w0E
noncomputable def w0G : T TypeInfo := nd w0y (some t28) w0F
noncomputable def w0H : T TypeInfo := nd w0r (some t12) w0G
noncomputable def w0I : T TypeInfo := nd w0c (some t4) w0H
noncomputable def w0J : T TypeInfo := nd (nd (nd (lf t1026) (some t514) z0) (some t258) (nd z0 (some t770) z0)) (some t130) (nd (nd z0 (some t642) z0) (some t386) (nd z0 (some t898) z0))
noncomputable def w0K : T TypeInfo := nd (nd (nd (lf t1090) (some t578) z0) (some t322) (nd z0 (some t834) z0)) (some t194) (nd (nd z0 (some t706) z0) (some t450) (nd z0 (some t962) z0))
noncomputable def w0L : T TypeInfo := nd w0J (some t66) w0K
noncomputable def w0M : T TypeInfo := nd (nd (nd (lf t1058) (some t546) z0) (some t290) (nd z0 (some t802) z0)) (some t162) (nd (nd z0 (some t674) z0) (some t418) (nd z0 (some t930) z0))
noncomputable def w0N : T TypeInfo := nd (nd (nd z0 (some t610) z0) (some t354) (nd z0 (some t866) z0)) (some t226) (nd (nd z0 (some t738) z0) (some t482) (nd z0 (some t994) z0))
noncomputable def w0O : T TypeInfo := nd w0M (some t98) w0N
noncomputable def w0P : T TypeInfo := nd w0L (some t34) w0O
noncomputable def w0Q : T TypeInfo := nd (nd (nd (lf t1042) (some t530) z0) (some t274) (nd z0 (some t786) z0)) (some t146) (nd (nd z0 (some t658) z0) (some t402) (nd z0 (some t914) z0))
noncomputable def w0R : T TypeInfo := nd (nd (nd (lf t1106) (some t594) z0) (some t338) (nd z0 (some t850) z0)) (some t210) (nd (nd z0 (some t722) z0) (some t466) (nd z0 (some t978) z0))
noncomputable def w0S : T TypeInfo := nd w0Q (some t82) w0R
noncomputable def w0T : T TypeInfo := nd (nd (nd (lf t1074) (some t562) z0) (some t306) (nd z0 (some t818) z0)) (some t178) (nd (nd z0 (some t690) z0) (some t434) (nd z0 (some t946) z0))
noncomputable def w0U : T TypeInfo := nd (nd (nd z0 (some t626) z0) (some t370) (nd z0 (some t882) z0)) (some t242) (nd (nd z0 (some t754) z0) (some t498) (nd z0 (some t1010) z0))
noncomputable def w0V : T TypeInfo := nd w0T (some t114) w0U
noncomputable def w0W : T TypeInfo := nd w0S (some t50) w0V
noncomputable def w0X : T TypeInfo := nd w0P none w0W
noncomputable def w0Y : T TypeInfo := nd (nd (nd (lf t1034) (some t522) z0) (some t266) (nd z0 (some t778) z0)) (some t138) (nd (nd z0 (some t650) z0) (some t394) (nd z0 (some t906) z0))
noncomputable def w0Z : T TypeInfo := nd (nd (nd (lf t1098) (some t586) z0) (some t330) (nd z0 (some t842) z0)) (some t202) (nd (nd z0 (some t714) z0) (some t458) (nd z0 (some t970) z0))
noncomputable def w1a : T TypeInfo := nd w0Y (some t74) w0Z
noncomputable def w1b : T TypeInfo := nd (nd (nd z0 (some t554) z0) (some t298) (nd z0 (some t810) z0)) (some t170) (nd (nd z0 (some t682) z0) (some t426) (nd z0 (some t938) z0))
noncomputable def w1c : T TypeInfo := nd (nd (nd z0 (some t618) z0) (some t362) (nd z0 (some t874) z0)) (some t234) (nd (nd z0 (some t746) z0) (some t490) (nd z0 (some t1002) z0))
noncomputable def w1d : T TypeInfo := nd w1b (some t106) w1c
noncomputable def w1e : T TypeInfo := nd w1a (some t42) w1d
noncomputable def w1f : T TypeInfo := nd (nd (nd (lf t1050) (some t538) z0) (some t282) (nd z0 (some t794) z0)) (some t154) (nd (nd z0 (some t666) z0) (some t410) (nd z0 (some t922) z0))
noncomputable def w1g : T TypeInfo := nd (nd (nd (lf t1114) (some t602) z0) (some t346) (nd z0 (some t858) z0)) (some t218) (nd (nd z0 (some t730) z0) (some t474) (nd z0 (some t986) z0))
noncomputable def w1h : T TypeInfo := nd w1f (some t90) w1g
noncomputable def w1i : T TypeInfo := nd (nd (nd (lf t1082) (some t570) z0) (some t314) (nd z0 (some t826) z0)) (some t186) (nd (nd z0 (some t698) z0) (some t442) (nd z0 (some t954) z0))
noncomputable def w1j : T TypeInfo := nd (nd (nd z0 (some t634) z0) (some t378) (nd z0 (some t890) z0)) (some t250) (nd (nd z0 (some t762) z0) (some t506) (nd z0 (some t1018) z0))
noncomputable def w1k : T TypeInfo := nd w1i (some t122) w1j
noncomputable def w1l : T TypeInfo := nd w1h (some t58) w1k
noncomputable def w1m : T TypeInfo := nd w1e (some t26) w1l
noncomputable def w1n : T TypeInfo := nd w0X (some t10) w1m
noncomputable def w1o : T TypeInfo := nd (nd (nd (lf t1030) (some t518) z0) (some t262) (nd z0 (some t774) z0)) (some t134) (nd (nd z0 (some t646) z0) (some t390) (nd z0 (some t902) z0))
noncomputable def w1p : T TypeInfo := nd (nd (nd (lf t1094) (some t582) z0) (some t326) (nd z0 (some t838) z0)) (some t198) (nd (nd z0 (some t710) z0) (some t454) (nd z0 (some t966) z0))
noncomputable def w1q : T TypeInfo := nd w1o (some t70) w1p
noncomputable def w1r : T TypeInfo := nd (nd (nd (lf t1062) (some t550) z0) (some t294) (nd z0 (some t806) z0)) (some t166) (nd (nd z0 (some t678) z0) (some t422) (nd z0 (some t934) z0))
noncomputable def w1s : T TypeInfo := nd (nd (nd z0 (some t614) z0) (some t358) (nd z0 (some t870) z0)) (some t230) (nd (nd z0 (some t742) z0) (some t486) (nd z0 (some t998) z0))
noncomputable def w1t : T TypeInfo := nd w1r (some t102) w1s
noncomputable def w1u : T TypeInfo := nd w1q (some t38) w1t
noncomputable def w1v : T TypeInfo := nd (nd (nd (lf t1046) (some t534) z0) (some t278) (nd z0 (some t790) z0)) (some t150) (nd (nd z0 (some t662) z0) (some t406) (nd z0 (some t918) z0))
noncomputable def w1w : T TypeInfo := nd (nd (nd (lf t1110) (some t598) z0) (some t342) (nd z0 (some t854) z0)) (some t214) (nd (nd z0 (some t726) z0) (some t470) (nd z0 (some t982) z0))
noncomputable def w1x : T TypeInfo := nd w1v (some t86) w1w
noncomputable def w1y : T TypeInfo := nd (nd (nd (lf t1078) (some t566) z0) (some t310) (nd z0 (some t822) z0)) (some t182) (nd (nd z0 (some t694) z0) (some t438) (nd z0 (some t950) z0))
noncomputable def w1z : T TypeInfo := nd (nd (nd z0 (some t630) z0) (some t374) (nd z0 (some t886) z0)) (some t246) (nd (nd z0 (some t758) z0) (some t502) (nd z0 (some t1014) z0))
noncomputable def w1A : T TypeInfo := nd w1y (some t118) w1z
noncomputable def w1B : T TypeInfo := nd w1x (some t54) w1A
noncomputable def w1C : T TypeInfo := nd w1u (some t22) w1B
noncomputable def w1D : T TypeInfo := nd (nd (nd (lf t1038) (some t526) z0) (some t270) (nd z0 (some t782) z0)) (some t142) (nd (nd z0 (some t654) z0) (some t398) (nd z0 (some t910) z0))
noncomputable def w1E : T TypeInfo := nd (nd (nd (lf t1102) (some t590) z0) (some t334) (nd z0 (some t846) z0)) (some t206) (nd (nd z0 (some t718) z0) (some t462) (nd z0 (some t974) z0))
noncomputable def w1F : T TypeInfo := nd w1D (some t78) w1E
noncomputable def w1G : T TypeInfo := nd (nd (nd (lf t1070) (some t558) z0) (some t302) (nd z0 (some t814) z0)) (some t174) (nd (nd z0 (some t686) z0) (some t430) (nd z0 (some t942) z0))
noncomputable def w1H : T TypeInfo := nd (nd (nd z0 (some t622) z0) (some t366) (nd z0 (some t878) z0)) (some t238) (nd (nd z0 (some t750) z0) (some t494) (nd z0 (some t1006) z0))
noncomputable def w1I : T TypeInfo := nd w1G (some t110) w1H
noncomputable def w1J : T TypeInfo := nd w1F (some t46) w1I
noncomputable def w1K : T TypeInfo := nd (nd (nd (lf t1054) (some t542) z0) (some t286) (nd z0 (some t798) z0)) (some t158) (nd (nd z0 (some t670) z0) (some t414) (nd z0 (some t926) z0))
noncomputable def w1L : T TypeInfo := nd (nd (nd (lf t1118) (some t606) z0) (some t350) (nd z0 (some t862) z0)) (some t222) (nd (nd z0 (some t734) z0) (some t478) (nd z0 (some t990) z0))
noncomputable def w1M : T TypeInfo := nd w1K (some t94) w1L
noncomputable def w1N : T TypeInfo := nd (nd (nd (lf t1086) (some t574) z0) (some t318) (nd z0 (some t830) z0)) (some t190) (nd (nd z0 (some t702) z0) (some t446) (nd z0 (some t958) z0))
noncomputable def w1O : T TypeInfo := nd (nd (nd z0 (some t638) z0) (some t382) (nd z0 (some t894) z0)) (some t254) (nd (nd z0 (some t766) z0) (some t510) (nd z0 (some t1022) z0))
noncomputable def w1P : T TypeInfo := nd w1N (some t126) w1O
noncomputable def w1Q : T TypeInfo := nd w1M (some t62) w1P
noncomputable def w1R : T TypeInfo := nd w1J (some t30) w1Q
noncomputable def w1S : T TypeInfo := nd w1C none w1R
noncomputable def w1T : T TypeInfo := nd w1n (some t6) w1S
noncomputable def w1U : T TypeInfo := nd w0I (some t2) w1T
noncomputable def w1V : T TypeInfo := nd k9x (some t0) w1U
noncomputable def Tryz.tab : Tab := { funcs := k7a, types := w1V, nglob := 14, ext := (((((T.e : T ExtK).set 131 (some .clone)).set 56 (some .same)).set 400 (some (.noZero 45))).set 385 (some .indexByte)).set 167 (some .countByte), noEq := ((((((T.e : T Nat).set 144 (some 0)).set 145 (some 0)).set 148 (some 0)).set 149 (some 0)).set 631 (some 0)).set 632 (some 0) }
theorem Tryz.tabFuncs : Tryz.tab.funcs = T.ofFn 11 fun k => Tryz.prog.funcs[k]? := by kernel_rfl
theorem Tryz.tabTypes : Tryz.tab.types = T.ofFn 11 fun k => j7p [13, 14, 18, 19, 1065, 1066, 1068, 1069, 1075, 1076] k Tryz.prog.types[k]? := by kernel_rfl
end Go.Proofs
namespace Go.Proofs
open Go.Sx
set_option maxRecDepth 100000
set_option maxHeartbeats 0
theorem Tryz.tabMixed : Tryz.prog.follows .mixedOrders = true := by kernel_rfl
theorem Tryz.tabNames : (Tryz.prog.funcs.toList.all fun f => !(f.name == "runtime.NumGoroutine")) = true := by kernel_rfl
noncomputable def Tryz.tabP (t : Nat) : Bool := z2j t [13, 14, 18, 19, 1065, 1066, 1068, 1069, 1075, 1076] || z7Q Tryz.prog Tryz.tab t
theorem z0g {p : Nat → Bool} {a n : Nat} (h : ((List.range' a n).all p) = true) (t : Nat) (h1 : a ≤ t) (h2 : t < a + n) : p t = true :=
 List.all_eq_true.1 h t (List.mem_range'_1.2 ⟨h1, h2⟩)
theorem Tryz.tabC0 : ((List.range' 0 60).all Tryz.tabP) = true := by kernel_rfl
theorem Tryz.tabC1 : ((List.range' 60 60).all Tryz.tabP) = true := by kernel_rfl
theorem Tryz.tabC2 : ((List.range' 120 60).all Tryz.tabP) = true := by kernel_rfl
theorem Tryz.tabC3 : ((List.range' 180 60).all Tryz.tabP) = true := by kernel_rfl
theorem Tryz.tabC4 : ((List.range' 240 60).all Tryz.tabP) = true := by kernel_rfl
theorem Tryz.tabC5 : ((List.range' 300 60).all Tryz.tabP) = true := by kernel_rfl
theorem Tryz.tabC6 : ((List.range' 360 60).all Tryz.tabP) = true := by kernel_rfl
theorem Tryz.tabC7 : ((List.range' 420 60).all Tryz.tabP) = true := by kernel_rfl
theorem Tryz.tabC8 : ((List.range' 480 60).all Tryz.tabP) = true := by kernel_rfl
theorem Tryz.tabC9 : ((List.range' 540 60).all Tryz.tabP) = true := by kernel_rfl
theorem Tryz.tabC10 : ((List.range' 600 60).all Tryz.tabP) = true := by kernel_rfl
theorem Tryz.tabC11 : ((List.range' 660 60).all Tryz.tabP) = true := by kernel_rfl
theorem Tryz.tabC12 : ((List.range' 720 60).all Tryz.tabP) = true := by kernel_rfl
theorem Tryz.tabC13 : ((List.range' 780 60).all Tryz.tabP) = true := by kernel_rfl
theorem Tryz.tabC14 : ((List.range' 840 60).all Tryz.tabP) = true := by kernel_rfl
theorem Tryz.tabC15 : ((List.range' 900 60).all Tryz.tabP) = true := by kernel_rfl
theorem Tryz.tabC16 : ((List.range' 960 60).all Tryz.tabP) = true := by kernel_rfl
theorem Tryz.tabC17 : ((List.range' 1020 60).all Tryz.tabP) = true := by kernel_rfl
theorem Tryz.tabC18 : ((List.range' 1080 41).all Tryz.tabP) = true := by kernel_rfl
theorem Tryz.tabSize : Tryz.prog.types.size = 1121 := by kernel_rfl
theorem Tryz.tabChk : ((List.range Tryz.prog.types.size).all fun t => z2j t [13, 14, 18, 19, 1065, 1066, 1068, 1069, 1075, 1076] || z7Q Tryz.prog Tryz.tab t) = true := by
 rw [Tryz.tabSize]
 refine List.all_eq_true.2 fun t ht => ?_
 have ht : t < 1121 := List.mem_range.1 ht
 show Tryz.tabP t = true
 by_cases h0 : t < 60
 ·exact z0g Tryz.tabC0 t (by omega) (by omega)
 by_cases h1 : t < 120
 ·exact z0g Tryz.tabC1 t (by omega) (by omega)
 by_cases h2 : t < 180
 ·exact z0g Tryz.tabC2 t (by omega) (by omega)
 by_cases h3 : t < 240
 ·exact z0g Tryz.tabC3 t (by omega) (by omega)
 by_cases h4 : t < 300
 ·exact z0g Tryz.tabC4 t (by omega) (by omega)
 by_cases h5 : t < 360
 ·exact z0g Tryz.tabC5 t (by omega) (by omega)
 by_cases h6 : t < 420
 ·exact z0g Tryz.tabC6 t (by omega) (by omega)
 by_cases h7 : t < 480
 ·exact z0g Tryz.tabC7 t (by omega) (by omega)
 by_cases h8 : t < 540
 ·exact z0g Tryz.tabC8 t (by omega) (by omega)
 by_cases h9 : t < 600
 ·exact z0g Tryz.tabC9 t (by omega) (by omega)
 by_cases h10 : t < 660
 ·exact z0g Tryz.tabC10 t (by omega) (by omega)
 by_cases h11 : t < 720
 ·exact z0g Tryz.tabC11 t (by omega) (by omega)
 by_cases h12 : t < 780
 ·exact z0g Tryz.tabC12 t (by omega) (by omega)
 by_cases h13 : t < 840
 ·exact z0g Tryz.tabC13 t (by omega) (by omega)
 by_cases h14 : t < 900
 ·exact z0g Tryz.tabC14 t (by omega) (by omega)
 by_cases h15 : t < 960
 ·exact z0g Tryz.tabC15 t (by omega) (by omega)
 by_cases h16 : t < 1020
 ·exact z0g Tryz.tabC16 t (by omega) (by omega)
 by_cases h17 : t < 1080
 ·exact z0g Tryz.tabC17 t (by omega) (by omega)
 exact z0g Tryz.tabC18 t (by omega) (by omega)
theorem Tryz.tabOk : TabOk Tryz.prog Tryz.tab := j3u Tryz.tabMixed Tryz.tabFuncs Tryz.tabTypes Tryz.tabNames Tryz.tabChk
 (show ∀ f k, ((((((T.e : T ExtK).set 131 (some .clone)).set 56 (some .same)).set 400 (some (.noZero 45))).set 385 (some .indexByte)).set 167 (some .countByte)).get f = some k → _ from z9r (P := Tryz.prog) (k := .countByte) (fn := Tryz.f167) (by kernel_rfl) (by kernel_rfl) (by kernel_rfl) (by kernel_rfl) (by kernel_rfl) (z9r (P := Tryz.prog) (k := .indexByte) (fn := Tryz.f385) (by kernel_rfl) (by kernel_rfl) (by kernel_rfl) (by kernel_rfl) (by kernel_rfl) (z9r (P := Tryz.prog) (k := (.noZero 45)) (fn := Tryz.f400) (by kernel_rfl) (by kernel_rfl) (by kernel_rfl) (by kernel_rfl) (by kernel_rfl) (z9r (P := Tryz.prog) (k := .same) (fn := Tryz.f56) (by kernel_rfl) (by kernel_rfl) (by kernel_rfl) (by kernel_rfl) (by kernel_rfl) (z9r (P := Tryz.prog) (k := .clone) (fn := Tryz.f131) (by kernel_rfl) (by kernel_rfl) (by kernel_rfl) (by kernel_rfl) (by kernel_rfl) j9T)))))
end Go.Proofs
