/-
  The tables of this seat's program for the executor.
-/
import Derived.Test.YtdnkpdgncgjilaaGreatDoorProg
import Derived.Test.YtdnkpdgncgjilaaGreatDoorNSxF
import Derived.KernelRfl
set_option linter.unusedSimpArgs false
set_option linter.unusedVariables false
set_option maxRecDepth 100000
set_option maxHeartbeats 0
namespace Go.Proofs
open Go.Sx
abbrev lf {α : Type} (a : α) : T α := .n .e (some a) .e
abbrev nd {α : Type} (l : T α) (a : Option α) (r : T α) : T α := .n l a r
abbrev z0 {α : Type} : T α := .n .e none .e
open Tryz
noncomputable def sf0 : T Func := nd (nd (nd (lf f511) (some f255) (lf f767)) (some f127) (nd (lf f639) (some f383) z0)) (some f63) (nd (nd (lf f575) (some f319) (lf f831)) (some f191) (nd (lf f703) (some f447) z0))
noncomputable def sf1 : T Func := nd (nd (nd (lf f543) (some f287) (lf f799)) (some f159) (nd (lf f671) (some f415) z0)) (some f95) (nd (nd (lf f607) (some f351) (lf f863)) (some f223) (nd (lf f735) (some f479) z0))
noncomputable def sf2 : T Func := nd sf0 (some f31) sf1
noncomputable def sf3 : T Func := nd (nd (nd (lf f527) (some f271) (lf f783)) (some f143) (nd (lf f655) (some f399) z0)) (some f79) (nd (nd (lf f591) (some f335) (lf f847)) (some f207) (nd (lf f719) (some f463) z0))
noncomputable def sf4 : T Func := nd (nd (nd (lf f559) (some f303) (lf f815)) (some f175) (nd (lf f687) (some f431) z0)) (some f111) (nd (nd (lf f623) (some f367) (lf f879)) (some f239) (nd (lf f751) (some f495) z0))
noncomputable def sf5 : T Func := nd sf3 (some f47) sf4
noncomputable def sf6 : T Func := nd sf2 (some f15) sf5
noncomputable def sf7 : T Func := nd (nd (nd (lf f519) (some f263) (lf f775)) (some f135) (nd (lf f647) (some f391) z0)) (some f71) (nd (nd (lf f583) (some f327) (lf f839)) (some f199) (nd (lf f711) (some f455) z0))
noncomputable def sf8 : T Func := nd (nd (nd (lf f551) (some f295) (lf f807)) (some f167) (nd (lf f679) (some f423) z0)) (some f103) (nd (nd (lf f615) (some f359) (lf f871)) (some f231) (nd (lf f743) (some f487) z0))
noncomputable def sf9 : T Func := nd sf7 (some f39) sf8
noncomputable def sf10 : T Func := nd (nd (nd (lf f535) (some f279) (lf f791)) (some f151) (nd (lf f663) (some f407) z0)) (some f87) (nd (nd (lf f599) (some f343) (lf f855)) (some f215) (nd (lf f727) (some f471) z0))
noncomputable def sf11 : T Func := nd (nd (nd (lf f567) (some f311) (lf f823)) (some f183) (nd (lf f695) (some f439) z0)) (some f119) (nd (nd (lf f631) (some f375) (lf f887)) (some f247) (nd (lf f759) (some f503) z0))
noncomputable def sf12 : T Func := nd sf10 (some f55) sf11
noncomputable def sf13 : T Func := nd sf9 (some f23) sf12
noncomputable def sf14 : T Func := nd sf6 (some f7) sf13
noncomputable def sf15 : T Func := nd (nd (nd (lf f515) (some f259) (lf f771)) (some f131) (nd (lf f643) (some f387) z0)) (some f67) (nd (nd (lf f579) (some f323) (lf f835)) (some f195) (nd (lf f707) (some f451) z0))
noncomputable def sf16 : T Func := nd (nd (nd (lf f547) (some f291) (lf f803)) (some f163) (nd (lf f675) (some f419) z0)) (some f99) (nd (nd (lf f611) (some f355) (lf f867)) (some f227) (nd (lf f739) (some f483) z0))
noncomputable def sf17 : T Func := nd sf15 (some f35) sf16
noncomputable def sf18 : T Func := nd (nd (nd (lf f531) (some f275) (lf f787)) (some f147) (nd (lf f659) (some f403) z0)) (some f83) (nd (nd (lf f595) (some f339) (lf f851)) (some f211) (nd (lf f723) (some f467) z0))
noncomputable def sf19 : T Func := nd (nd (nd (lf f563) (some f307) (lf f819)) (some f179) (nd (lf f691) (some f435) z0)) (some f115) (nd (nd (lf f627) (some f371) (lf f883)) (some f243) (nd (lf f755) (some f499) z0))
noncomputable def sf20 : T Func := nd sf18 (some f51) sf19
noncomputable def sf21 : T Func := nd sf17 (some f19) sf20
noncomputable def sf22 : T Func := nd (nd (nd (lf f523) (some f267) (lf f779)) (some f139) (nd (lf f651) (some f395) z0)) (some f75) (nd (nd (lf f587) (some f331) (lf f843)) (some f203) (nd (lf f715) (some f459) z0))
noncomputable def sf23 : T Func := nd (nd (nd (lf f555) (some f299) (lf f811)) (some f171) (nd (lf f683) (some f427) z0)) (some f107) (nd (nd (lf f619) (some f363) (lf f875)) (some f235) (nd (lf f747) (some f491) z0))
noncomputable def sf24 : T Func := nd sf22 (some f43) sf23
noncomputable def sf25 : T Func := nd (nd (nd (lf f539) (some f283) (lf f795)) (some f155) (nd (lf f667) (some f411) z0)) (some f91) (nd (nd (lf f603) (some f347) (lf f859)) (some f219) (nd (lf f731) (some f475) z0))
noncomputable def sf26 : T Func := nd (nd (nd (lf f571) (some f315) (lf f827)) (some f187) (nd (lf f699) (some f443) z0)) (some f123) (nd (nd (lf f635) (some f379) (lf f891)) (some f251) (nd (lf f763) (some f507) z0))
noncomputable def sf27 : T Func := nd sf25 (some f59) sf26
noncomputable def sf28 : T Func := nd sf24 (some f27) sf27
noncomputable def sf29 : T Func := nd sf21 (some f11) sf28
noncomputable def sf30 : T Func := nd sf14 (some f3) sf29
noncomputable def sf31 : T Func := nd (nd (nd (lf f513) (some f257) (lf f769)) (some f129) (nd (lf f641) (some f385) z0)) (some f65) (nd (nd (lf f577) (some f321) (lf f833)) (some f193) (nd (lf f705) (some f449) z0))
noncomputable def sf32 : T Func := nd (nd (nd (lf f545) (some f289) (lf f801)) (some f161) (nd (lf f673) (some f417) z0)) (some f97) (nd (nd (lf f609) (some f353) (lf f865)) (some f225) (nd (lf f737) (some f481) z0))
noncomputable def sf33 : T Func := nd sf31 (some f33) sf32
noncomputable def sf34 : T Func := nd (nd (nd (lf f529) (some f273) (lf f785)) (some f145) (nd (lf f657) (some f401) z0)) (some f81) (nd (nd (lf f593) (some f337) (lf f849)) (some f209) (nd (lf f721) (some f465) z0))
noncomputable def sf35 : T Func := nd (nd (nd (lf f561) (some f305) (lf f817)) (some f177) (nd (lf f689) (some f433) z0)) (some f113) (nd (nd (lf f625) (some f369) (lf f881)) (some f241) (nd (lf f753) (some f497) z0))
noncomputable def sf36 : T Func := nd sf34 (some f49) sf35
noncomputable def sf37 : T Func := nd sf33 (some f17) sf36
noncomputable def sf38 : T Func := nd (nd (nd (lf f521) (some f265) (lf f777)) (some f137) (nd (lf f649) (some f393) z0)) (some f73) (nd (nd (lf f585) (some f329) (lf f841)) (some f201) (nd (lf f713) (some f457) z0))
noncomputable def sf39 : T Func := nd (nd (nd (lf f553) (some f297) (lf f809)) (some f169) (nd (lf f681) (some f425) z0)) (some f105) (nd (nd (lf f617) (some f361) (lf f873)) (some f233) (nd (lf f745) (some f489) z0))
noncomputable def sf40 : T Func := nd sf38 (some f41) sf39
noncomputable def sf41 : T Func := nd (nd (nd (lf f537) (some f281) (lf f793)) (some f153) (nd (lf f665) (some f409) z0)) (some f89) (nd (nd (lf f601) (some f345) (lf f857)) (some f217) (nd (lf f729) (some f473) z0))
noncomputable def sf42 : T Func := nd (nd (nd (lf f569) (some f313) (lf f825)) (some f185) (nd (lf f697) (some f441) z0)) (some f121) (nd (nd (lf f633) (some f377) (lf f889)) (some f249) (nd (lf f761) (some f505) z0))
noncomputable def sf43 : T Func := nd sf41 (some f57) sf42
noncomputable def sf44 : T Func := nd sf40 (some f25) sf43
noncomputable def sf45 : T Func := nd sf37 (some f9) sf44
noncomputable def sf46 : T Func := nd (nd (nd (lf f517) (some f261) (lf f773)) (some f133) (nd (lf f645) (some f389) z0)) (some f69) (nd (nd (lf f581) (some f325) (lf f837)) (some f197) (nd (lf f709) (some f453) z0))
noncomputable def sf47 : T Func := nd (nd (nd (lf f549) (some f293) (lf f805)) (some f165) (nd (lf f677) (some f421) z0)) (some f101) (nd (nd (lf f613) (some f357) (lf f869)) (some f229) (nd (lf f741) (some f485) z0))
noncomputable def sf48 : T Func := nd sf46 (some f37) sf47
noncomputable def sf49 : T Func := nd (nd (nd (lf f533) (some f277) (lf f789)) (some f149) (nd (lf f661) (some f405) z0)) (some f85) (nd (nd (lf f597) (some f341) (lf f853)) (some f213) (nd (lf f725) (some f469) z0))
noncomputable def sf50 : T Func := nd (nd (nd (lf f565) (some f309) (lf f821)) (some f181) (nd (lf f693) (some f437) z0)) (some f117) (nd (nd (lf f629) (some f373) (lf f885)) (some f245) (nd (lf f757) (some f501) z0))
noncomputable def sf51 : T Func := nd sf49 (some f53) sf50
noncomputable def sf52 : T Func := nd sf48 (some f21) sf51
noncomputable def sf53 : T Func := nd (nd (nd (lf f525) (some f269) (lf f781)) (some f141) (nd (lf f653) (some f397) z0)) (some f77) (nd (nd (lf f589) (some f333) (lf f845)) (some f205) (nd (lf f717) (some f461) z0))
noncomputable def sf54 : T Func := nd (nd (nd (lf f557) (some f301) (lf f813)) (some f173) (nd (lf f685) (some f429) z0)) (some f109) (nd (nd (lf f621) (some f365) (lf f877)) (some f237) (nd (lf f749) (some f493) z0))
noncomputable def sf55 : T Func := nd sf53 (some f45) sf54
noncomputable def sf56 : T Func := nd (nd (nd (lf f541) (some f285) (lf f797)) (some f157) (nd (lf f669) (some f413) z0)) (some f93) (nd (nd (lf f605) (some f349) (lf f861)) (some f221) (nd (lf f733) (some f477) z0))
noncomputable def sf57 : T Func := nd (nd (nd (lf f573) (some f317) (lf f829)) (some f189) (nd (lf f701) (some f445) z0)) (some f125) (nd (nd (lf f637) (some f381) (lf f893)) (some f253) (nd (lf f765) (some f509) z0))
noncomputable def sf58 : T Func := nd sf56 (some f61) sf57
noncomputable def sf59 : T Func := nd sf55 (some f29) sf58
noncomputable def sf60 : T Func := nd sf52 (some f13) sf59
noncomputable def sf61 : T Func := nd sf45 (some f5) sf60
noncomputable def sf62 : T Func := nd sf30 (some f1) sf61
noncomputable def sf63 : T Func := nd (nd (nd (lf f512) (some f256) (lf f768)) (some f128) (nd (lf f640) (some f384) z0)) (some f64) (nd (nd (lf f576) (some f320) (lf f832)) (some f192) (nd (lf f704) (some f448) z0))
noncomputable def sf64 : T Func := nd (nd (nd (lf f544) (some f288) (lf f800)) (some f160) (nd (lf f672) (some f416) z0)) (some f96) (nd (nd (lf f608) (some f352) (lf f864)) (some f224) (nd (lf f736) (some f480) z0))
noncomputable def sf65 : T Func := nd sf63 (some f32) sf64
noncomputable def sf66 : T Func := nd (nd (nd (lf f528) (some f272) (lf f784)) (some f144) (nd (lf f656) (some f400) z0)) (some f80) (nd (nd (lf f592) (some f336) (lf f848)) (some f208) (nd (lf f720) (some f464) z0))
noncomputable def sf67 : T Func := nd (nd (nd (lf f560) (some f304) (lf f816)) (some f176) (nd (lf f688) (some f432) z0)) (some f112) (nd (nd (lf f624) (some f368) (lf f880)) (some f240) (nd (lf f752) (some f496) z0))
noncomputable def sf68 : T Func := nd sf66 (some f48) sf67
noncomputable def sf69 : T Func := nd sf65 (some f16) sf68
noncomputable def sf70 : T Func := nd (nd (nd (lf f520) (some f264) (lf f776)) (some f136) (nd (lf f648) (some f392) z0)) (some f72) (nd (nd (lf f584) (some f328) (lf f840)) (some f200) (nd (lf f712) (some f456) z0))
noncomputable def sf71 : T Func := nd (nd (nd (lf f552) (some f296) (lf f808)) (some f168) (nd (lf f680) (some f424) z0)) (some f104) (nd (nd (lf f616) (some f360) (lf f872)) (some f232) (nd (lf f744) (some f488) z0))
noncomputable def sf72 : T Func := nd sf70 (some f40) sf71
noncomputable def sf73 : T Func := nd (nd (nd (lf f536) (some f280) (lf f792)) (some f152) (nd (lf f664) (some f408) z0)) (some f88) (nd (nd (lf f600) (some f344) (lf f856)) (some f216) (nd (lf f728) (some f472) z0))
noncomputable def sf74 : T Func := nd (nd (nd (lf f568) (some f312) (lf f824)) (some f184) (nd (lf f696) (some f440) z0)) (some f120) (nd (nd (lf f632) (some f376) (lf f888)) (some f248) (nd (lf f760) (some f504) z0))
noncomputable def sf75 : T Func := nd sf73 (some f56) sf74
noncomputable def sf76 : T Func := nd sf72 (some f24) sf75
noncomputable def sf77 : T Func := nd sf69 (some f8) sf76
noncomputable def sf78 : T Func := nd (nd (nd (lf f516) (some f260) (lf f772)) (some f132) (nd (lf f644) (some f388) z0)) (some f68) (nd (nd (lf f580) (some f324) (lf f836)) (some f196) (nd (lf f708) (some f452) z0))
noncomputable def sf79 : T Func := nd (nd (nd (lf f548) (some f292) (lf f804)) (some f164) (nd (lf f676) (some f420) z0)) (some f100) (nd (nd (lf f612) (some f356) (lf f868)) (some f228) (nd (lf f740) (some f484) z0))
noncomputable def sf80 : T Func := nd sf78 (some f36) sf79
noncomputable def sf81 : T Func := nd (nd (nd (lf f532) (some f276) (lf f788)) (some f148) (nd (lf f660) (some f404) z0)) (some f84) (nd (nd (lf f596) (some f340) (lf f852)) (some f212) (nd (lf f724) (some f468) z0))
noncomputable def sf82 : T Func := nd (nd (nd (lf f564) (some f308) (lf f820)) (some f180) (nd (lf f692) (some f436) z0)) (some f116) (nd (nd (lf f628) (some f372) (lf f884)) (some f244) (nd (lf f756) (some f500) z0))
noncomputable def sf83 : T Func := nd sf81 (some f52) sf82
noncomputable def sf84 : T Func := nd sf80 (some f20) sf83
noncomputable def sf85 : T Func := nd (nd (nd (lf f524) (some f268) (lf f780)) (some f140) (nd (lf f652) (some f396) z0)) (some f76) (nd (nd (lf f588) (some f332) (lf f844)) (some f204) (nd (lf f716) (some f460) z0))
noncomputable def sf86 : T Func := nd (nd (nd (lf f556) (some f300) (lf f812)) (some f172) (nd (lf f684) (some f428) z0)) (some f108) (nd (nd (lf f620) (some f364) (lf f876)) (some f236) (nd (lf f748) (some f492) z0))
noncomputable def sf87 : T Func := nd sf85 (some f44) sf86
noncomputable def sf88 : T Func := nd (nd (nd (lf f540) (some f284) (lf f796)) (some f156) (nd (lf f668) (some f412) z0)) (some f92) (nd (nd (lf f604) (some f348) (lf f860)) (some f220) (nd (lf f732) (some f476) z0))
noncomputable def sf89 : T Func := nd (nd (nd (lf f572) (some f316) (lf f828)) (some f188) (nd (lf f700) (some f444) z0)) (some f124) (nd (nd (lf f636) (some f380) (lf f892)) (some f252) (nd (lf f764) (some f508) z0))
noncomputable def sf90 : T Func := nd sf88 (some f60) sf89
noncomputable def sf91 : T Func := nd sf87 (some f28) sf90
noncomputable def sf92 : T Func := nd sf84 (some f12) sf91
noncomputable def sf93 : T Func := nd sf77 (some f4) sf92
noncomputable def sf94 : T Func := nd (nd (nd (lf f514) (some f258) (lf f770)) (some f130) (nd (lf f642) (some f386) z0)) (some f66) (nd (nd (lf f578) (some f322) (lf f834)) (some f194) (nd (lf f706) (some f450) z0))
noncomputable def sf95 : T Func := nd (nd (nd (lf f546) (some f290) (lf f802)) (some f162) (nd (lf f674) (some f418) z0)) (some f98) (nd (nd (lf f610) (some f354) (lf f866)) (some f226) (nd (lf f738) (some f482) z0))
noncomputable def sf96 : T Func := nd sf94 (some f34) sf95
noncomputable def sf97 : T Func := nd (nd (nd (lf f530) (some f274) (lf f786)) (some f146) (nd (lf f658) (some f402) z0)) (some f82) (nd (nd (lf f594) (some f338) (lf f850)) (some f210) (nd (lf f722) (some f466) z0))
noncomputable def sf98 : T Func := nd (nd (nd (lf f562) (some f306) (lf f818)) (some f178) (nd (lf f690) (some f434) z0)) (some f114) (nd (nd (lf f626) (some f370) (lf f882)) (some f242) (nd (lf f754) (some f498) z0))
noncomputable def sf99 : T Func := nd sf97 (some f50) sf98
noncomputable def w9o : T Func := nd sf96 (some f18) sf99
noncomputable def w9p : T Func := nd (nd (nd (lf f522) (some f266) (lf f778)) (some f138) (nd (lf f650) (some f394) z0)) (some f74) (nd (nd (lf f586) (some f330) (lf f842)) (some f202) (nd (lf f714) (some f458) z0))
noncomputable def w9q : T Func := nd (nd (nd (lf f554) (some f298) (lf f810)) (some f170) (nd (lf f682) (some f426) z0)) (some f106) (nd (nd (lf f618) (some f362) (lf f874)) (some f234) (nd (lf f746) (some f490) z0))
noncomputable def w9r : T Func := nd w9p (some f42) w9q
noncomputable def w9s : T Func := nd (nd (nd (lf f538) (some f282) (lf f794)) (some f154) (nd (lf f666) (some f410) z0)) (some f90) (nd (nd (lf f602) (some f346) (lf f858)) (some f218) (nd (lf f730) (some f474) z0))
noncomputable def w9t : T Func := nd (nd (nd (lf f570) (some f314) (lf f826)) (some f186) (nd (lf f698) (some f442) z0)) (some f122) (nd (nd (lf f634) (some f378) (lf f890)) (some f250) (nd (lf f762) (some f506) z0))
noncomputable def w9u : T Func := nd w9s (some f58) w9t
noncomputable def w9v : T Func := nd w9r (some f26) w9u
noncomputable def w9w : T Func := nd w9o (some f10) w9v
noncomputable def w9x : T Func := nd (nd (nd (lf f518) (some f262) (lf f774)) (some f134) (nd (lf f646) (some f390) z0)) (some f70) (nd (nd (lf f582) (some f326) (lf f838)) (some f198) (nd (lf f710) (some f454) z0))
noncomputable def w9y : T Func := nd (nd (nd (lf f550) (some f294) (lf f806)) (some f166) (nd (lf f678) (some f422) z0)) (some f102) (nd (nd (lf f614) (some f358) (lf f870)) (some f230) (nd (lf f742) (some f486) z0))
noncomputable def w9z : T Func := nd w9x (some f38) w9y
noncomputable def w9A : T Func := nd (nd (nd (lf f534) (some f278) (lf f790)) (some f150) (nd (lf f662) (some f406) z0)) (some f86) (nd (nd (lf f598) (some f342) (lf f854)) (some f214) (nd (lf f726) (some f470) z0))
noncomputable def w9B : T Func := nd (nd (nd (lf f566) (some f310) (lf f822)) (some f182) (nd (lf f694) (some f438) z0)) (some f118) (nd (nd (lf f630) (some f374) (lf f886)) (some f246) (nd (lf f758) (some f502) z0))
noncomputable def w9C : T Func := nd w9A (some f54) w9B
noncomputable def w9D : T Func := nd w9z (some f22) w9C
noncomputable def w9E : T Func := nd (nd (nd (lf f526) (some f270) (lf f782)) (some f142) (nd (lf f654) (some f398) z0)) (some f78) (nd (nd (lf f590) (some f334) (lf f846)) (some f206) (nd (lf f718) (some f462) z0))
noncomputable def w9F : T Func := nd (nd (nd (lf f558) (some f302) (lf f814)) (some f174) (nd (lf f686) (some f430) z0)) (some f110) (nd (nd (lf f622) (some f366) (lf f878)) (some f238) (nd (lf f750) (some f494) z0))
noncomputable def w9G : T Func := nd w9E (some f46) w9F
noncomputable def w9H : T Func := nd (nd (nd (lf f542) (some f286) (lf f798)) (some f158) (nd (lf f670) (some f414) z0)) (some f94) (nd (nd (lf f606) (some f350) (lf f862)) (some f222) (nd (lf f734) (some f478) z0))
noncomputable def w9I : T Func := nd (nd (nd (lf f574) (some f318) (lf f830)) (some f190) (nd (lf f702) (some f446) z0)) (some f126) (nd (nd (lf f638) (some f382) (lf f894)) (some f254) (nd (lf f766) (some f510) z0))
noncomputable def w9J : T Func := nd w9H (some f62) w9I
noncomputable def w9K : T Func := nd w9G (some f30) w9J
noncomputable def w9L : T Func := nd w9D (some f14) w9K
noncomputable def w9M : T Func := nd w9w (some f6) w9L
noncomputable def w9N : T Func := nd sf93 (some f2) w9M
noncomputable def w9O : T Func := nd sf62 (some f0) w9N
noncomputable def w9P : T TypeInfo := nd (nd (nd (lf t511) (some t255) (lf t767)) (some t127) (nd (lf t639) (some t383) (lf t895))) (some t63) (nd (nd (lf t575) (some t319) (lf t831)) (some t191) (nd (lf t703) (some t447) z0))
noncomputable def w9Q : T TypeInfo := nd (nd (nd (lf t543) (some t287) (lf t799)) (some t159) (nd (lf t671) (some t415) (lf t927))) (some t95) (nd (nd (lf t607) (some t351) (lf t863)) (some t223) (nd (lf t735) (some t479) z0))
noncomputable def w9R : T TypeInfo := nd w9P (some t31) w9Q
noncomputable def w9S : T TypeInfo := nd (nd (nd (lf t527) (some t271) (lf t783)) (some t143) (nd (lf t655) (some t399) (lf t911))) (some t79) (nd (nd (lf t591) (some t335) z0) (some t207) (nd (lf t719) (some t463) z0))
noncomputable def w9T : T TypeInfo := nd (nd (nd (lf t559) (some t303) (lf t815)) (some t175) (nd (lf t687) (some t431) z0)) (some t111) (nd (nd (lf t623) (some t367) (lf t879)) (some t239) (nd (lf t751) (some t495) z0))
noncomputable def w9U : T TypeInfo := nd w9S (some t47) w9T
noncomputable def w9V : T TypeInfo := nd w9R (some t15) w9U
noncomputable def w9W : T TypeInfo := nd (nd (nd (lf t519) (some t263) (lf t775)) (some t135) (nd (lf t647) (some t391) (lf t903))) (some t71) (nd (nd (lf t583) (some t327) (lf t839)) (some t199) (nd (lf t711) (some t455) z0))
noncomputable def w9X : T TypeInfo := nd (nd (nd (lf t551) (some t295) (lf t807)) (some t167) (nd (lf t679) (some t423) z0)) (some t103) (nd (nd (lf t615) (some t359) (lf t871)) (some t231) (nd (lf t743) (some t487) z0))
noncomputable def w9Y : T TypeInfo := nd w9W (some t39) w9X
noncomputable def w9Z : T TypeInfo := nd (nd (nd (lf t535) (some t279) (lf t791)) (some t151) (nd (lf t663) (some t407) (lf t919))) (some t87) (nd (nd (lf t599) (some t343) (lf t855)) (some t215) (nd (lf t727) (some t471) z0))
noncomputable def v0a : T TypeInfo := nd (nd (nd (lf t567) (some t311) (lf t823)) (some t183) (nd (lf t695) (some t439) z0)) (some t119) (nd (nd (lf t631) (some t375) (lf t887)) (some t247) (nd (lf t759) (some t503) z0))
noncomputable def v0b : T TypeInfo := nd w9Z (some t55) v0a
noncomputable def v0c : T TypeInfo := nd w9Y (some t23) v0b
noncomputable def v0d : T TypeInfo := nd w9V (some t7) v0c
noncomputable def v0e : T TypeInfo := nd (nd (nd (lf t515) (some t259) (lf t771)) (some t131) (nd (lf t643) (some t387) (lf t899))) (some t67) (nd (nd (lf t579) (some t323) (lf t835)) (some t195) (nd (lf t707) (some t451) z0))
noncomputable def v0f : T TypeInfo := nd (nd (nd (lf t547) (some t291) (lf t803)) (some t163) (nd (lf t675) (some t419) (lf t931))) (some t99) (nd (nd (lf t611) (some t355) (lf t867)) (some t227) (nd (lf t739) (some t483) z0))
noncomputable def v0g : T TypeInfo := nd v0e (some t35) v0f
noncomputable def v0h : T TypeInfo := nd (nd (nd (lf t531) (some t275) (lf t787)) (some t147) (nd (lf t659) (some t403) (lf t915))) (some t83) (nd (nd (lf t595) (some t339) (lf t851)) (some t211) (nd (lf t723) (some t467) z0))
noncomputable def v0i : T TypeInfo := nd (nd (nd (lf t563) (some t307) (lf t819)) (some t179) (nd (lf t691) (some t435) z0)) (some t115) (nd (nd (lf t627) (some t371) (lf t883)) (some t243) (nd (lf t755) (some t499) z0))
noncomputable def v0j : T TypeInfo := nd v0h (some t51) v0i
noncomputable def v0k : T TypeInfo := nd v0g none v0j
noncomputable def v0l : T TypeInfo := nd (nd (nd (lf t523) (some t267) (lf t779)) (some t139) (nd (lf t651) (some t395) (lf t907))) (some t75) (nd (nd (lf t587) (some t331) z0) (some t203) (nd (lf t715) (some t459) z0))
noncomputable def v0m : T TypeInfo := nd (nd (nd (lf t555) (some t299) (lf t811)) (some t171) (nd (lf t683) (some t427) z0)) (some t107) (nd (nd (lf t619) (some t363) (lf t875)) (some t235) (nd (lf t747) (some t491) z0))
noncomputable def v0n : T TypeInfo := nd v0l (some t43) v0m
noncomputable def v0o : T TypeInfo := nd (nd (nd (lf t539) (some t283) (lf t795)) (some t155) (nd (lf t667) (some t411) (lf t923))) (some t91) (nd (nd (lf t603) (some t347) (lf t859)) (some t219) (nd (lf t731) (some t475) z0))
noncomputable def v0p : T TypeInfo := nd (nd (nd (lf t571) (some t315) (lf t827)) (some t187) (nd (lf t699) (some t443) z0)) (some t123) (nd (nd (lf t635) (some t379) (lf t891)) (some t251) (nd (lf t763) (some t507) z0))
noncomputable def v0q : T TypeInfo := nd v0o (some t59) v0p
noncomputable def v0r : T TypeInfo := nd v0n (some t27) v0q
noncomputable def v0s : T TypeInfo := nd v0k (some t11) v0r
noncomputable def v0t : T TypeInfo := nd v0d (some t3) v0s
noncomputable def v0u : T TypeInfo := nd (nd (nd (lf t513) (some t257) (lf t769)) (some t129) (nd (lf t641) (some t385) (lf t897))) (some t65) (nd (nd (lf t577) (some t321) (lf t833)) (some t193) (nd (lf t705) (some t449) z0))
noncomputable def v0v : T TypeInfo := nd (nd (nd (lf t545) (some t289) (lf t801)) (some t161) (nd (lf t673) (some t417) (lf t929))) (some t97) (nd (nd (lf t609) (some t353) (lf t865)) (some t225) (nd (lf t737) (some t481) z0))
noncomputable def v0w : T TypeInfo := nd v0u (some t33) v0v
noncomputable def v0x : T TypeInfo := nd (nd (nd (lf t529) (some t273) (lf t785)) (some t145) (nd (lf t657) (some t401) (lf t913))) (some t81) (nd (nd (lf t593) (some t337) (lf t849)) (some t209) (nd (lf t721) (some t465) z0))
noncomputable def v0y : T TypeInfo := nd (nd (nd (lf t561) (some t305) (lf t817)) (some t177) (nd (lf t689) (some t433) z0)) (some t113) (nd (nd (lf t625) (some t369) (lf t881)) (some t241) (nd (lf t753) (some t497) z0))
noncomputable def v0z : T TypeInfo := nd v0x (some t49) v0y
noncomputable def v0A : T TypeInfo := nd v0w (some t17) v0z
noncomputable def v0B : T TypeInfo := nd (nd (nd (lf t521) (some t265) (lf t777)) (some t137) (nd (lf t649) (some t393) (lf t905))) (some t73) (nd (nd (lf t585) (some t329) (lf t841)) (some t201) (nd (lf t713) (some t457) z0))
noncomputable def v0C : T TypeInfo := nd (nd (nd (lf t553) (some t297) (lf t809)) (some t169) (nd (lf t681) (some t425) z0)) (some t105) (nd (nd (lf t617) (some t361) (lf t873)) (some t233) (nd (lf t745) (some t489) z0))
noncomputable def v0D : T TypeInfo := nd v0B (some t41) v0C
noncomputable def v0E : T TypeInfo := nd (nd (nd (lf t537) (some t281) (lf t793)) (some t153) (nd (lf t665) (some t409) (lf t921))) (some t89) (nd (nd (lf t601) (some t345) (lf t857)) (some t217) (nd (lf t729) (some t473) z0))
noncomputable def v0F : T TypeInfo := nd (nd (nd (lf t569) (some t313) (lf t825)) (some t185) (nd (lf t697) (some t441) z0)) (some t121) (nd (nd (lf t633) (some t377) (lf t889)) (some t249) (nd (lf t761) (some t505) z0))
noncomputable def v0G : T TypeInfo := nd v0E (some t57) v0F
noncomputable def v0H : T TypeInfo := nd v0D (some t25) v0G
noncomputable def v0I : T TypeInfo := nd v0A (some t9) v0H
noncomputable def v0J : T TypeInfo := nd (nd (nd (lf t517) (some t261) (lf t773)) (some t133) (nd (lf t645) (some t389) (lf t901))) (some t69) (nd (nd (lf t581) (some t325) (lf t837)) (some t197) (nd (lf t709) (some t453) z0))
noncomputable def v0K : T TypeInfo := nd (nd (nd (lf t549) (some t293) (lf t805)) (some t165) (nd (lf t677) (some t421) (lf t933))) (some t101) (nd (nd (lf t613) (some t357) (lf t869)) (some t229) (nd (lf t741) (some t485) z0))
noncomputable def v0L : T TypeInfo := nd v0J (some t37) v0K
noncomputable def v0M : T TypeInfo := nd (nd (nd (lf t533) (some t277) (lf t789)) (some t149) (nd (lf t661) (some t405) (lf t917))) (some t85) (nd (nd (lf t597) (some t341) z0) (some t213) (nd (lf t725) (some t469) z0))
noncomputable def v0N : T TypeInfo := nd (nd (nd (lf t565) (some t309) (lf t821)) (some t181) (nd (lf t693) (some t437) z0)) (some t117) (nd (nd (lf t629) (some t373) (lf t885)) (some t245) (nd (lf t757) (some t501) z0))
noncomputable def v0O : T TypeInfo := nd v0M (some t53) v0N
noncomputable def v0P : T TypeInfo := nd v0L (some t21) v0O
noncomputable def v0Q : T TypeInfo := nd (nd (nd (lf t525) (some t269) (lf t781)) (some t141) (nd (lf t653) (some t397) (lf t909))) (some t77) (nd (nd (lf t589) (some t333) (lf t845)) (some t205) (nd (lf t717) (some t461) z0))
noncomputable def v0R : T TypeInfo := nd (nd (nd (lf t557) (some t301) (lf t813)) (some t173) (nd (lf t685) (some t429) z0)) (some t109) (nd (nd (lf t621) (some t365) (lf t877)) (some t237) (nd (lf t749) (some t493) z0))
noncomputable def v0S : T TypeInfo := nd v0Q (some t45) v0R
noncomputable def v0T : T TypeInfo := nd (nd (nd (lf t541) (some t285) (lf t797)) (some t157) (nd (lf t669) (some t413) (lf t925))) (some t93) (nd (nd (lf t605) (some t349) (lf t861)) (some t221) (nd (lf t733) (some t477) z0))
noncomputable def v0U : T TypeInfo := nd (nd (nd (lf t573) (some t317) (lf t829)) (some t189) (nd (lf t701) (some t445) z0)) (some t125) (nd (nd (lf t637) (some t381) (lf t893)) (some t253) (nd (lf t765) (some t509) z0))
noncomputable def v0V : T TypeInfo := nd v0T (some t61) v0U
noncomputable def v0W : T TypeInfo := nd v0S (some t29) v0V
noncomputable def v0X : T TypeInfo := nd v0P none v0W
noncomputable def v0Y : T TypeInfo := nd v0I (some t5) v0X
noncomputable def v0Z : T TypeInfo := nd v0t (some t1) v0Y
noncomputable def v1a : T TypeInfo := nd (nd (nd (lf t512) (some t256) (lf t768)) (some t128) (nd (lf t640) (some t384) (lf t896))) (some t64) (nd (nd (lf t576) (some t320) (lf t832)) (some t192) (nd (lf t704) (some t448) z0))
noncomputable def v1b : T TypeInfo := nd (nd (nd (lf t544) (some t288) (lf t800)) (some t160) (nd (lf t672) (some t416) (lf t928))) (some t96) (nd (nd (lf t608) (some t352) (lf t864)) (some t224) (nd (lf t736) (some t480) z0))
noncomputable def v1c : T TypeInfo := nd v1a (some t32) v1b
noncomputable def v1d : T TypeInfo := nd (nd (nd (lf t528) (some t272) (lf t784)) (some t144) (nd (lf t656) (some t400) (lf t912))) (some t80) (nd (nd (lf t592) (some t336) (lf t848)) (some t208) (nd (lf t720) (some t464) z0))
noncomputable def v1e : T TypeInfo := nd (nd (nd (lf t560) (some t304) (lf t816)) (some t176) (nd (lf t688) (some t432) z0)) (some t112) (nd (nd (lf t624) (some t368) (lf t880)) (some t240) (nd (lf t752) (some t496) z0))
noncomputable def v1f : T TypeInfo := nd v1d (some t48) v1e
noncomputable def v1g : T TypeInfo := nd v1c (some t16) v1f
noncomputable def v1h : T TypeInfo := nd (nd (nd (lf t520) (some t264) (lf t776)) (some t136) (nd (lf t648) (some t392) (lf t904))) (some t72) (nd (nd (lf t584) (some t328) (lf t840)) (some t200) (nd (lf t712) (some t456) z0))
noncomputable def v1i : T TypeInfo := nd (nd (nd (lf t552) (some t296) (lf t808)) (some t168) (nd (lf t680) (some t424) z0)) (some t104) (nd (nd (lf t616) (some t360) (lf t872)) (some t232) (nd (lf t744) (some t488) z0))
noncomputable def v1j : T TypeInfo := nd v1h (some t40) v1i
noncomputable def v1k : T TypeInfo := nd (nd (nd (lf t536) (some t280) (lf t792)) (some t152) (nd (lf t664) (some t408) (lf t920))) (some t88) (nd (nd (lf t600) (some t344) (lf t856)) (some t216) (nd (lf t728) (some t472) z0))
noncomputable def v1l : T TypeInfo := nd (nd (nd (lf t568) (some t312) (lf t824)) (some t184) (nd (lf t696) (some t440) z0)) (some t120) (nd (nd (lf t632) (some t376) (lf t888)) (some t248) (nd (lf t760) (some t504) z0))
noncomputable def v1m : T TypeInfo := nd v1k (some t56) v1l
noncomputable def v1n : T TypeInfo := nd v1j (some t24) v1m
noncomputable def v1o : T TypeInfo := nd v1g (some t8) v1n
noncomputable def v1p : T TypeInfo := nd (nd (nd (lf t516) (some t260) (lf t772)) (some t132) (nd (lf t644) (some t388) (lf t900))) (some t68) (nd (nd (lf t580) (some t324) (lf t836)) (some t196) (nd (lf t708) (some t452) z0))
noncomputable def v1q : T TypeInfo := nd (nd (nd (lf t548) (some t292) (lf t804)) (some t164) (nd (lf t676) (some t420) (lf t932))) (some t100) (nd (nd (lf t612) (some t356) (lf t868)) (some t228) (nd (lf t740) (some t484) z0))
noncomputable def v1r : T TypeInfo := nd v1p (some t36) v1q
noncomputable def v1s : T TypeInfo := nd (nd (nd (lf t532) (some t276) (lf t788)) (some t148) (nd (lf t660) (some t404) (lf t916))) (some t84) (nd (nd (lf t596) (some t340) (lf t852)) (some t212) (nd (lf t724) (some t468) z0))
noncomputable def v1t : T TypeInfo := nd (nd (nd (lf t564) (some t308) (lf t820)) (some t180) (nd (lf t692) (some t436) z0)) (some t116) (nd (nd (lf t628) (some t372) (lf t884)) (some t244) (nd (lf t756) (some t500) z0))
noncomputable def v1u : T TypeInfo := nd v1s (some t52) v1t
noncomputable def v1v : T TypeInfo := nd v1r (some t20) v1u
noncomputable def v1w : T TypeInfo := nd (nd (nd (lf t524) (some t268) (lf t780)) (some t140) (nd (lf t652) (some t396) (lf t908))) (some t76) (nd (nd (lf t588) (some t332) z0) (some t204) (nd (lf t716) (some t460) z0))
noncomputable def v1x : T TypeInfo := nd (nd (nd (lf t556) (some t300) (lf t812)) (some t172) (nd (lf t684) (some t428) z0)) (some t108) (nd (nd (lf t620) (some t364) (lf t876)) (some t236) (nd (lf t748) (some t492) z0))
noncomputable def v1y : T TypeInfo := nd v1w (some t44) v1x
noncomputable def v1z : T TypeInfo := nd (nd (nd (lf t540) (some t284) (lf t796)) (some t156) (nd (lf t668) (some t412) (lf t924))) (some t92) (nd (nd (lf t604) (some t348) (lf t860)) (some t220) (nd (lf t732) (some t476) z0))
noncomputable def v1A : T TypeInfo := nd (nd (nd (lf t572) (some t316) (lf t828)) (some t188) (nd (lf t700) (some t444) z0)) (some t124) (nd (nd (lf t636) (some t380) (lf t892)) (some t252) (nd (lf t764) (some t508) z0))
noncomputable def v1B : T TypeInfo := nd v1z (some t60) v1A
noncomputable def v1C : T TypeInfo := nd v1y (some t28) v1B
noncomputable def v1D : T TypeInfo := nd v1v (some t12) v1C
noncomputable def v1E : T TypeInfo := nd v1o (some t4) v1D
noncomputable def v1F : T TypeInfo := nd (nd (nd (lf t514) (some t258) (lf t770)) (some t130) (nd (lf t642) (some t386) (lf t898))) (some t66) (nd (nd (lf t578) (some t322) (lf t834)) (some t194) (nd (lf t706) (some t450) z0))
noncomputable def v1G : T TypeInfo := nd (nd (nd (lf t546) (some t290) (lf t802)) (some t162) (nd (lf t674) (some t418) (lf t930))) (some t98) (nd (nd (lf t610) (some t354) (lf t866)) (some t226) (nd (lf t738) (some t482) z0))
noncomputable def v1H : T TypeInfo := nd v1F (some t34) v1G
noncomputable def v1I : T TypeInfo := nd (nd (nd (lf t530) (some t274) (lf t786)) (some t146) (nd (lf t658) (some t402) (lf t914))) (some t82) (nd (nd (lf t594) (some t338) (lf t850)) (some t210) (nd (lf t722) (some t466) z0))
noncomputable def v1J : T TypeInfo := nd (nd (nd (lf t562) (some t306) (lf t818)) (some t178) (nd (lf t690) (some t434) z0)) (some t114) (nd (nd (lf t626) (some t370) (lf t882)) (some t242) (nd (lf t754) (some t498) z0))
noncomputable def v1K : T TypeInfo := nd v1I (some t50) v1J
noncomputable def v1L : T TypeInfo := nd v1H none v1K
noncomputable def v1M : T TypeInfo := nd (nd (nd (lf t522) (some t266) (lf t778)) (some t138) (nd (lf t650) (some t394) (lf t906))) (some t74) (nd (nd (lf t586) (some t330) (lf t842)) (some t202) (nd (lf t714) (some t458) z0))
noncomputable def v1N : T TypeInfo := nd (nd (nd (lf t554) (some t298) (lf t810)) (some t170) (nd (lf t682) (some t426) z0)) (some t106) (nd (nd (lf t618) (some t362) (lf t874)) (some t234) (nd (lf t746) (some t490) z0))
noncomputable def v1O : T TypeInfo := nd v1M (some t42) v1N
noncomputable def v1P : T TypeInfo := nd (nd (nd (lf t538) (some t282) (lf t794)) (some t154) (nd (lf t666) (some t410) (lf t922))) (some t90) (nd (nd (lf t602) (some t346) (lf t858)) (some t218) (nd (lf t730) (some t474) z0))
noncomputable def v1Q : T TypeInfo := nd (nd (nd (lf t570) (some t314) (lf t826)) (some t186) (nd (lf t698) (some t442) z0)) (some t122) (nd (nd (lf t634) (some t378) (lf t890)) (some t250) (nd (lf t762) (some t506) z0))
noncomputable def v1R : T TypeInfo := nd v1P (some t58) v1Q
noncomputable def v1S : T TypeInfo := nd v1O (some t26) v1R
noncomputable def v1T : T TypeInfo := nd v1L (some t10) v1S
noncomputable def v1U : T TypeInfo := nd (nd (nd (lf t518) (some t262) (lf t774)) (some t134) (nd (lf t646) (some t390) (lf t902))) (some t70) (nd (nd (lf t582) (some t326) (lf t838)) (some t198) (nd (lf t710) (some t454) z0))
noncomputable def v1V : T TypeInfo := nd (nd (nd (lf t550) (some t294) (lf t806)) (some t166) (nd (lf t678) (some t422) z0)) (some t102) (nd (nd (lf t614) (some t358) (lf t870)) (some t230) (nd (lf t742) (some t486) z0))
noncomputable def v1W : T TypeInfo := nd v1U (some t38) v1V
noncomputable def v1X : T TypeInfo := nd (nd (nd (lf t534) (some t278) (lf t790)) (some t150) (nd (lf t662) (some t406) (lf t918))) (some t86) (nd (nd (lf t598) (some t342) z0) (some t214) (nd (lf t726) (some t470) z0))
noncomputable def v1Y : T TypeInfo := nd (nd (nd (lf t566) (some t310) (lf t822)) (some t182) (nd (lf t694) (some t438) z0)) (some t118) (nd (nd (lf t630) (some t374) (lf t886)) (some t246) (nd (lf t758) (some t502) z0))
noncomputable def v1Z : T TypeInfo := nd v1X (some t54) v1Y
noncomputable def v2a : T TypeInfo := nd v1W (some t22) v1Z
noncomputable def v2b : T TypeInfo := nd (nd (nd (lf t526) (some t270) (lf t782)) (some t142) (nd (lf t654) (some t398) (lf t910))) (some t78) (nd (nd (lf t590) (some t334) z0) (some t206) (nd (lf t718) (some t462) z0))
noncomputable def v2c : T TypeInfo := nd (nd (nd (lf t558) (some t302) (lf t814)) (some t174) (nd (lf t686) (some t430) z0)) (some t110) (nd (nd (lf t622) (some t366) (lf t878)) (some t238) (nd (lf t750) (some t494) z0))
noncomputable def v2d : T TypeInfo := nd v2b (some t46) v2c
noncomputable def v2e : T TypeInfo := nd (nd (nd (lf t542) (some t286) (lf t798)) (some t158) (nd (lf t670) (some t414) (lf t926))) (some t94) (nd (nd (lf t606) (some t350) (lf t862)) (some t222) (nd (lf t734) (some t478) z0))
noncomputable def v2f : T TypeInfo := nd (nd (nd (lf t574) (some t318) (lf t830)) (some t190) (nd (lf t702) (some t446) z0)) (some t126) (nd (nd (lf t638) (some t382) (lf t894)) (some t254) (nd (lf t766) (some t510) z0))
noncomputable def v2g : T TypeInfo := nd v2e (some t62) v2f
noncomputable def v2h : T TypeInfo := nd v2d (some t30) v2g
noncomputable def v2i : T TypeInfo := nd v2a none v2h
noncomputable def v2j : T TypeInfo := nd v1T (some t6) v2i
noncomputable def v2k : T TypeInfo := nd v1E (some t2) v2j
noncomputable def v2l : T TypeInfo := nd v0Z (some t0) v2k
noncomputable def Tryz.tab : Tab := { funcs := w9O, types := v2l, nglob := 10, ext := ((((T.e : T ExtK).set 149 (some .clone)).set 721 (some .same)).set 722 (some (.noZero 199))).set 623 (some .indexByte), noEq := ((((T.e : T Nat).set 127 (some 0)).set 128 (some 0)).set 131 (some 0)).set 132 (some 0) }
theorem Tryz.tabFuncs : Tryz.tab.funcs = T.ofFn 10 fun k => Tryz.prog.funcs[k]? := by kernel_rfl
theorem Tryz.tabTypes : Tryz.tab.types = T.ofFn 10 fun k => k1O [13, 14, 18, 19, 843, 844, 846, 847, 853, 854] k Tryz.prog.types[k]? := by kernel_rfl
end Go.Proofs
namespace Go.Proofs
open Go.Sx
set_option maxRecDepth 100000
set_option maxHeartbeats 0
theorem Tryz.tabMixed : Tryz.prog.follows .mixedOrders = true := by kernel_rfl
theorem Tryz.tabNames : (Tryz.prog.funcs.toList.all fun f => !(f.name == "runtime.NumGoroutine")) = true := by kernel_rfl
noncomputable def Tryz.tabP (t : Nat) : Bool := z2U t [13, 14, 18, 19, 843, 844, 846, 847, 853, 854] || z7R Tryz.prog Tryz.tab t
theorem z0i {p : Nat → Bool} {a n : Nat} (h : ((List.range' a n).all p) = true) (t : Nat) (h1 : a ≤ t) (h2 : t < a + n) : p t = true :=
 List.all_eq_true.1 h t (List.mem_range'_1.2 ⟨h1, h2⟩)
theorem Tryz.tabC0 : ((List.range' 0 60).all Tryz.tabP) = true := by kernel_rfl
theorem Tryz.tabC1 : ((List.range' 60 60).all Tryz.tabP) = true := by kernel_rfl
theorem Tryz.tabC2 : ((List.range' 120 60).all Tryz.tabP) = true := by kernel_rfl
theorem Tryz.tabC3 : ((List.range' 180 60).all Tryz.tabP) = true := by kernel_rfl
theorem Tryz.tabC4 : ((List.range' 240 60).all Tryz.tabP) = true := by kernel_rfl
theorem Tryz.tabC5 : ((List.range' 300 60).all Tryz.tabP) = true := by kernel_rfl
theorem Tryz.tabC6 : ((List.range' 360 60).all Tryz.tabP) = true := by kernel_rfl
theorem Tryz.tabC7 : ((List.range' 420 60).all Tryz.tabP) = true := by kernel_rfl
theorem Tryz.tabC8 : ((List.range' 480 60).all Tryz.tabP) = true := by kernel_rfl
theorem Tryz.tabC9 : ((List.range' 540 60).all Tryz.tabP) = true := by kernel_rfl
theorem Tryz.tabC10 : ((List.range' 600 60).all Tryz.tabP) = true := by kernel_rfl
theorem Tryz.tabC11 : ((List.range' 660 60).all Tryz.tabP) = true := by kernel_rfl
theorem Tryz.tabC12 : ((List.range' 720 60).all Tryz.tabP) = true := by kernel_rfl
theorem Tryz.tabC13 : ((List.range' 780 60).all Tryz.tabP) = true := by kernel_rfl
theorem Tryz.tabC14 : ((List.range' 840 60).all Tryz.tabP) = true := by kernel_rfl
theorem Tryz.tabC15 : ((List.range' 900 34).all Tryz.tabP) = true := by kernel_rfl
theorem Tryz.tabSize : Tryz.prog.types.size = 934 := by kernel_rfl
theorem Tryz.tabChk : ((List.range Tryz.prog.types.size).all fun t => z2U t [13, 14, 18, 19, 843, 844, 846, 847, 853, 854] || z7R Tryz.prog Tryz.tab t) = true := by
 rw [Tryz.tabSize]
 refine List.all_eq_true.2 fun t ht => ?_
 have ht : t < 934 := List.mem_range.1 ht
 show Tryz.tabP t = true
 by_cases h0 : t < 60
 ·exact z0i Tryz.tabC0 t (by omega) (by omega)
 by_cases h1 : t < 120
 ·exact z0i Tryz.tabC1 t (by omega) (by omega)
 by_cases h2 : t < 180
 ·exact z0i Tryz.tabC2 t (by omega) (by omega)
 by_cases h3 : t < 240
 ·exact z0i Tryz.tabC3 t (by omega) (by omega)
 by_cases h4 : t < 300
 ·exact z0i Tryz.tabC4 t (by omega) (by omega)
 by_cases h5 : t < 360
 ·exact z0i Tryz.tabC5 t (by omega) (by omega)
 by_cases h6 : t < 420
 ·exact z0i Tryz.tabC6 t (by omega) (by omega)
 by_cases h7 : t < 480
 ·exact z0i Tryz.tabC7 t (by omega) (by omega)
 by_cases h8 : t < 540
 ·exact z0i Tryz.tabC8 t (by omega) (by omega)
 by_cases h9 : t < 600
 ·exact z0i Tryz.tabC9 t (by omega) (by omega)
 by_cases h10 : t < 660
 ·exact z0i Tryz.tabC10 t (by omega) (by omega)
 by_cases h11 : t < 720
 ·exact z0i Tryz.tabC11 t (by omega) (by omega)
 by_cases h12 : t < 780
 ·exact z0i Tryz.tabC12 t (by omega) (by omega)
 by_cases h13 : t < 840
 ·exact z0i Tryz.tabC13 t (by omega) (by omega)
 by_cases h14 : t < 900
 ·exact z0i Tryz.tabC14 t (by omega) (by omega)
 exact z0i Tryz.tabC15 t (by omega) (by omega)
theorem Tryz.tabOk : TabOk Tryz.prog Tryz.tab := j5T Tryz.tabMixed Tryz.tabFuncs Tryz.tabTypes Tryz.tabNames Tryz.tabChk
 (show ∀ f k, (((((T.e : T ExtK).set 149 (some .clone)).set 721 (some .same)).set 722 (some (.noZero 199))).set 623 (some .indexByte)).get f = some k → _ from q2t (P := Tryz.prog) (k := .indexByte) (fn := Tryz.f623) (by kernel_rfl) (by kernel_rfl) (by kernel_rfl) (by kernel_rfl) (by kernel_rfl) (q2t (P := Tryz.prog) (k := (.noZero 199)) (fn := Tryz.f722) (by kernel_rfl) (by kernel_rfl) (by kernel_rfl) (by kernel_rfl) (by kernel_rfl) (q2t (P := Tryz.prog) (k := .same) (fn := Tryz.f721) (by kernel_rfl) (by kernel_rfl) (by kernel_rfl) (by kernel_rfl) (by kernel_rfl) (q2t (P := Tryz.prog) (k := .clone) (fn := Tryz.f149) (by kernel_rfl) (by kernel_rfl) (by kernel_rfl) (by kernel_rfl) (by kernel_rfl) w5a))))
end Go.Proofs
