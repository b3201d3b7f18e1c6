/- Walks, by program: each of what it calls. -/
import Derived.Test.YtmkigppfdmghnaaGreatDoorIHead
set_option linter.all false
namespace Go.Vx
open Go.Proofs
set_option maxRecDepth 100000
set_option maxHeartbeats 8000000
set_option linter.unusedVariables false
set_option linter.unusedSimpArgs false
attribute [local irreducible] chk iteO bindO cutO nilO
theorem ucd_wideName_ok0 (ucd_hex_ok:Kp (∀ (s:ByteArray) (r:Int) (h:ucd_hex s=some r),PureFn Tryz.prog 126 [(.v (.string s))] ((.v (.int .i64 r))))) (s:ByteArray) (r:Int) (h:ucd_wideName s=some r):PureFn Tryz.prog 42 [(.v (.string s))] ((.v (.int .i64 r))):=by
  unfold ucd_wideName at h
  refine Wfn Tryz.func42 (bodyOf Tryz.f42) fun ctr hc=>?_
  refine Wo0 ?_
  refine Wo 4 0 (ucd_hex_ok.get s) fun v h1=>?_
  refine Wk [] 0 [] Wz

theorem strings_IndexByte_ok0 (stringslite_IndexByte_ok:Kp (∀ (s:ByteArray) (c':Int) (r:Int) (h:stringslite_IndexByte s c'=some r),PureFn Tryz.prog 84 [(.v (.string s)),(.v (.int .u8 c'))] ((.v (.int .i64 r))))) (s:ByteArray) (c':Int) (r:Int) (h:strings_IndexByte s c'=some r):PureFn Tryz.prog 32 [(.v (.string s)),(.v (.int .u8 c'))] ((.v (.int .i64 r))):=by
  unfold strings_IndexByte at h
  refine Wfn Tryz.func32 (bodyOf Tryz.f32) fun ctr hc=>?_
  refine Wo0 ?_
  refine Wo 7 0 (stringslite_IndexByte_ok.get s c') fun v h1=>?_
  refine Wk [] 0 [] Wz

theorem interp_saying_ok0  (k':Int) (text:FV) (r:FV) (h:interp_saying k' text=some r):PureFn Tryz.prog 114 [(.v (.int .i64 k')),(.fn (.func (nvS.fF text)) (nvS.fK text) (nvS.fC text))] ((.fn (.func (nvS.fF r)) (nvS.fK r) (nvS.fC r))):=by
  unfold interp_saying at h
  refine Wfn Tryz.func114 (bodyOf Tryz.f114) fun ctr hc=>?_
  refine Wx [] 0 [] Wz

theorem ucd_joinName_ok0  (s:ByteArray) (r:Int) (h:ucd_joinName s=some r):PureFn Tryz.prog 43 [(.v (.string s))] ((.v (.int .i64 r))):=by
  unfold ucd_joinName at h
  refine Wfn Tryz.func43 (bodyOf Tryz.f43) fun ctr hc=>?_
  refine Wx [] 0 [] Wz

theorem istrconv_small_ok0  (i:Int) (r:ByteArray) (h:istrconv_small i=some r):PureFn Tryz.prog 253 [(.v (.int .i64 i))] ((.v (.string r))):=by
  unfold istrconv_small at h
  refine Wfn Tryz.func253 (bodyOf Tryz.f253) fun ctr hc=>?_
  refine Wx [] 0 [] Wz

theorem istrconv_Itoa_ok0 (istrconv_FormatInt_ok:Kp (∀ (i:Int) (base:Int) (r:ByteArray) (h:istrconv_FormatInt i base=some r),PureFn Tryz.prog 216 [(.v (.int .i64 i)),(.v (.int .i64 base))] ((.v (.string r))))) (i:Int) (r:ByteArray) (h:istrconv_Itoa i=some r):PureFn Tryz.prog 141 [(.v (.int .i64 i))] ((.v (.string r))):=by
  unfold istrconv_Itoa at h
  refine Wfn Tryz.func141 (bodyOf Tryz.f141) fun ctr hc=>?_
  refine Wo0 ?_
  refine Wo 4 0 (istrconv_FormatInt_ok.get i 10) fun v h1=>?_
  refine Wk [] 0 [] Wz

theorem interp_setting_ok0  (f':FV) (r:FV) (h:interp_setting f'=some r):PureFn Tryz.prog 164 [(.fn (.func (nvS.fF f')) (nvS.fK f') (nvS.fC f'))] ((.fn (.func (nvS.fF r)) (nvS.fK r) (nvS.fC r))):=by
  unfold interp_setting at h
  refine Wfn Tryz.func164 (bodyOf Tryz.f164) fun ctr hc=>?_
  refine Wx [] 0 [] Wz

theorem ucd_words_1_ok0  (c':Int) (r:Bool) (h:ucd_words_1 c'=some r):PureFn Tryz.prog 206 [(.v (.int .i32 c'))] ((.v (.bool r))):=by
  unfold ucd_words_1 at h
  refine Wfn Tryz.func206 (bodyOf Tryz.f206) fun ctr hc=>?_
  refine Wx [] 0 [] Wz

theorem interp_whole_ok0  (r':T_cursor_Region) (r:T_cursor_Region) (h:interp_whole r'=some r):PureFn Tryz.prog 48 [(.agg 4 (fun j=>(D_cursor_Region nvS r' j)))] ((.agg 4 (fun j=>(D_cursor_Region nvS r j)))):=by
  obtain ⟨r_H,r_W,r_Top,r_Bottom⟩:=r'
  unfold interp_whole at h
  try dsimp only at h
  refine Wfn Tryz.func48 (bodyOf Tryz.f48) fun ctr hc=>?_
  refine Wx [] 0 [] Wz

theorem interp_choosing_ok0  (f':FV) (r:FV) (h:interp_choosing f'=some r):PureFn Tryz.prog 98 [(.fn (.func (nvS.fF f')) (nvS.fK f') (nvS.fC f'))] ((.fn (.func (nvS.fF r)) (nvS.fK r) (nvS.fC r))):=by
  unfold interp_choosing at h
  refine Wfn Tryz.func98 (bodyOf Tryz.f98) fun ctr hc=>?_
  refine Wx [] 0 [] Wz

theorem cursor_full_ok0  (h':Int) (w:Int) (r:T_cursor_Region) (h:cursor_full h' w=some r):PureFn Tryz.prog 135 [(.v (.int .i64 h')),(.v (.int .i64 w))] ((.agg 4 (fun j=>(D_cursor_Region nvS r j)))):=by
  unfold cursor_full at h
  refine Wfn Tryz.func135 (bodyOf Tryz.f135) fun ctr hc=>?_
  refine Wx [] 0 [] Wz

theorem charset_isSet_ok0  (final:Int) (r:Bool) (h:charset_isSet final=some r):PureFn Tryz.prog 143 [(.v (.int .u8 final))] ((.v (.bool r))):=by
  unfold charset_isSet at h
  refine Wfn Tryz.func143 (bodyOf Tryz.f143) fun ctr hc=>?_
  refine Wx [] 0 [] Wz

theorem lapwinglaw16_ask_ok0  (inter:ByteArray) (l':(List (List Int))) (final:Int) (r:T_api_Action) (h:lapwinglaw16_ask inter l' final=some r):PureFn Tryz.prog 19 [(.v (.string inter)),(.sl 1 (nvS.len l') false (fun ix jx=>(.sl 1 (nvS.len (nvS.get [] l' ix)) false (fun ix1 jx1=>(.v (.int .i64 (nvS.get 0 (nvS.get [] l' ix) ix1))))))),(.v (.int .u8 final))] ((.agg 6 (fun j=>(D_api_Action nvS r j)))):=by
  unfold lapwinglaw16_ask at h
  refine Wfn Tryz.func19 (bodyOf Tryz.f19) fun ctr hc=>?_
  refine Wx [] 0 [] Wz

theorem charset_New_ok0   (r:T_charset_State) (h:charset_New=some r):PureFn Tryz.prog 63 [] ((.agg 7 (fun j=>(D_charset_State nvS r j)))):=by
  unfold charset_New at h
  refine Wfn Tryz.func63 (bodyOf Tryz.f63) fun ctr hc=>?_
  refine Wx [] 0 [] Wz

theorem strconv_Itoa_ok0 (istrconv_Itoa_ok:Kp (∀ (i:Int) (r:ByteArray) (h:istrconv_Itoa i=some r),PureFn Tryz.prog 141 [(.v (.int .i64 i))] ((.v (.string r))))) (i:Int) (r:ByteArray) (h:strconv_Itoa i=some r):PureFn Tryz.prog 56 [(.v (.int .i64 i))] ((.v (.string r))):=by
  unfold strconv_Itoa at h
  refine Wfn Tryz.func56 (bodyOf Tryz.f56) fun ctr hc=>?_
  refine Wo0 ?_
  refine Wo 4 0 (istrconv_Itoa_ok.get i) fun v h1=>?_
  refine Wk [] 0 [] Wz

theorem interp_reporting_ok0  (private':Bool) (mark:ByteArray) (r:FV) (h:interp_reporting private' mark=some r):PureFn Tryz.prog 119 [(.v (.bool private')),(.v (.string mark))] ((.fn (.func (nvS.fF r)) (nvS.fK r) (nvS.fC r))):=by
  unfold interp_reporting at h
  refine Wfn Tryz.func119 (bodyOf Tryz.f119) fun ctr hc=>?_
  refine Wx [] 0 [] Wz

theorem charset_isPlace_ok0  (which:Int) (r:Bool) (h:charset_isPlace which=some r):PureFn Tryz.prog 144 [(.v (.int .i64 which))] ((.v (.bool r))):=by
  unfold charset_isPlace at h
  refine Wfn Tryz.func144 (bodyOf Tryz.f144) fun ctr hc=>?_
  refine Wx [] 0 [] Wz

theorem charset_isShift_ok0  (which:Int) (r:Bool) (h:charset_isShift which=some r):PureFn Tryz.prog 145 [(.v (.int .i64 which))] ((.v (.bool r))):=by
  unfold charset_isShift at h
  refine Wfn Tryz.func145 (bodyOf Tryz.f145) fun ctr hc=>?_
  refine Wx [] 0 [] Wz

theorem cursor_between_ok0  (v:Int) (least:Int) (most:Int) (r:Int) (h:cursor_between v least most=some r):PureFn Tryz.prog 136 [(.v (.int .i64 v)),(.v (.int .i64 least)),(.v (.int .i64 most))] ((.v (.int .i64 r))):=by
  unfold cursor_between at h
  refine Wfn Tryz.func136 (bodyOf Tryz.f136) fun ctr hc=>?_
  refine Wx [] 0 [] Wz

theorem tabs_width_ok0  (w:Int) (r:Int) (h:tabs_width w=some r):PureFn Tryz.prog 213 [(.v (.int .i64 w))] ((.v (.int .i64 r))):=by
  unfold tabs_width at h
  refine Wfn Tryz.func213 (bodyOf Tryz.f213) fun ctr hc=>?_
  refine Wx [] 0 [] Wz

theorem modes_New_ok0   (r:T_modes_Modes) (h:modes_New=some r):PureFn Tryz.prog 53 [] ((.agg 1 (fun j=>(D_modes_Modes nvS r j)))):=by
  unfold modes_New at h
  refine Wfn Tryz.func53 (bodyOf Tryz.f53) fun ctr hc=>?_
  refine Wx [] 0 [] Wz

theorem modes_single_ok0  (bits:Int) (r:Bool) (h:modes_single bits=some r):PureFn Tryz.prog 131 [(.v (.int .i64 bits))] ((.v (.bool r))):=by
  unfold modes_single at h
  refine Wfn Tryz.func131 (bodyOf Tryz.f131) fun ctr hc=>?_
  refine Wx [] 0 [] Wz

theorem row_width_ok0  (w:Int) (r:Int) (h:row_width w=some r):PureFn Tryz.prog 272 [(.v (.int .i64 w))] ((.v (.int .i64 r))):=by
  unfold row_width at h
  refine Wfn Tryz.func272 (bodyOf Tryz.f272) fun ctr hc=>?_
  refine Wx [] 0 [] Wz

theorem history_bounded_ok0  (n:Int) (most:Int) (r:Int) (h:history_bounded n most=some r):PureFn Tryz.prog 214 [(.v (.int .i64 n)),(.v (.int .i64 most))] ((.v (.int .i64 r))):=by
  unfold history_bounded at h
  refine Wfn Tryz.func214 (bodyOf Tryz.f214) fun ctr hc=>?_
  refine Wx [] 0 [] Wz

theorem strconv_lower_ok0  (c':Int) (r:Int) (h:strconv_lower c'=some r):PureFn Tryz.prog 283 [(.v (.int .u8 c'))] ((.v (.int .u8 r))):=by
  unfold strconv_lower at h
  refine Wfn Tryz.func283 (bodyOf Tryz.f283) fun ctr hc=>?_
  refine Wx [] 0 [] Wz

theorem interp_privately_ok0  (on:Bool) (r:FV) (h:interp_privately on=some r):PureFn Tryz.prog 116 [(.v (.bool on))] ((.fn (.func (nvS.fF r)) (nvS.fK r) (nvS.fC r))):=by
  unfold interp_privately at h
  refine Wfn Tryz.func116 (bodyOf Tryz.f116) fun ctr hc=>?_
  refine Wx [] 0 [] Wz

theorem interp_switching_ok0  (on:Bool) (r:FV) (h:interp_switching on=some r):PureFn Tryz.prog 112 [(.v (.bool on))] ((.fn (.func (nvS.fF r)) (nvS.fK r) (nvS.fC r))):=by
  unfold interp_switching at h
  refine Wfn Tryz.func112 (bodyOf Tryz.f112) fun ctr hc=>?_
  refine Wx [] 0 [] Wz

theorem istrconv_underscoreOK_ok0  (a0:ByteArray) (r:Bool) (h:istrconv_underscoreOK a0=some r):PureFn Tryz.prog 284 [(.v (.string a0))] ((.v (.bool r))):=by cases h

theorem charset_Map_ok0  (a0:T_charset_State) (a1:Int) (r:(T_charset_State × Int)) (h:charset_Map a0 a1=some r):PureFn Tryz.prog 27 [(.agg 7 (fun j=>(D_charset_State nvS a0 j))),(.v (.int .i64 a1))] (.tup 2 (fun j=>match j with | 0=>(.agg 7 (fun j=>(D_charset_State nvS r.1 j))) | 1=>(.v (.int .i64 r.2)) | _=>.junk)):=by cases h

theorem interp_letter_ok0  (a0:T_interp_State) (a1:T_ucd_Data) (a2:Int) (r:T_interp_State) (h:interp_letter a0 a1 a2=some r):PureFn Tryz.prog 28 [(.agg 83 (fun j=>(D_interp_State nvS a0 j))),(.agg 6 (fun j=>(D_ucd_Data nvS a1 j))),(.v (.int .i64 a2))] ((.agg 83 (fun j=>(D_interp_State nvS r j)))):=by cases h

theorem interp_designate_ok0  (a0:T_interp_State) (a1:Int) (a2:Int) (r:T_interp_State) (h:interp_designate a0 a1 a2=some r):PureFn Tryz.prog 33 [(.agg 83 (fun j=>(D_interp_State nvS a0 j))),(.v (.int .i64 a1)),(.v (.int .u8 a2))] ((.agg 83 (fun j=>(D_interp_State nvS r j)))):=by cases h

theorem interp_title_ok0  (a0:T_interp_State) (a1:ByteArray) (r:T_interp_State) (h:interp_title a0 a1=some r):PureFn Tryz.prog 37 [(.agg 83 (fun j=>(D_interp_State nvS a0 j))),(.v (.string a1))] ((.agg 83 (fun j=>(D_interp_State nvS r j)))):=by cases h

theorem interp_controls_ok0   (r:(List T_interp_line)) (h:interp_controls=some r):PureFn Tryz.prog 31 [] (.own 3 (nvS.len r) false (fun ix jx=>(D_interp_line nvS (nvS.get d_interp_line r ix) jx))):=by cases h
end Go.Vx
