/-
  Joined: FrEz.
-/
import Derived.Test.YthgenkkkapilhaaGreatDoorVSn38
set_option linter.all false
set_option maxRecDepth 100000
set_option maxHeartbeats 64000000
namespace Go.Proofs.YthgenkkkapilhaaGreatDoor
section
open Go.RowKit
theorem fmar_any (w:World) (k r s i l d p a:Int) (t:ByteArray) (ht:t.size<=1000) (ha:0<=a/\a<4294967296):
  Calls Tryz.prog 170 #[frV k r s i l d p a t] w fun e w'=>e=.returned (marR k r s i l d p a t)/\Below w.heap.size w w':=by
 obtain⟨R,hR⟩:=zNm (marR k r s i l d p a t)
 rw[hR]
 unfold marR at hR
 have HC:=zY (fun W=>fcheck_any W k r s i l d p a t ht)
 obtain⟨E,hE⟩:=zNm (frE k r s i l d p t)
 rw[hE]at hR HC
 have HB:=zY (zBl w (.cells #[.int .i64 k,.int .i64 r,.int .i64 s,.int .i64 i,.int .i64 l,.int .i64 d,.int .i64 p,.int .u32 a,.string t] 49))
 unfold frV at HC⊢
 by_cases h0:E=0
 {
 subst h0
 obtain⟨h1,h2,h3,h4,h5,h6,h7,h8⟩:=frE_ok hE
 obtain⟨k,rfl⟩:∃n:Nat,k=n:=⟨k.toNat,by omega⟩
 obtain⟨r,rfl⟩:∃n:Nat,r=n:=⟨r.toNat,by omega⟩
 obtain⟨s,rfl⟩:∃n:Nat,s=n:=⟨s.toNat,by omega⟩
 obtain⟨i,rfl⟩:∃n:Nat,i=n:=⟨i.toNat,by omega⟩
 obtain⟨l,rfl⟩:∃n:Nat,l=n:=⟨l.toNat,by omega⟩
 obtain⟨d,rfl⟩:∃n:Nat,d=n:=⟨d.toNat,by omega⟩
 obtain⟨p,rfl⟩:∃n:Nat,p=n:=⟨p.toNat,by omega⟩
 obtain⟨a,rfl⟩:∃n:Nat,a=n:=⟨a.toNat,by omega⟩
 have HK:Hid (k<256):=zY (by omega)
 have HRr:Hid (r<256):=zY (by omega)
 have HS:Hid (s<256):=zY (by omega)
 have HI:Hid (i<65536):=zY (by omega)
 have HL:Hid (l<256):=zY (by omega)
 have HD:Hid (d<9/\p<8):=zY (by omega)
 have HA:Hid (a<4294967296):=zY (by omega)
 have HR:Hid (Value.tuple #[.string (strB (marL k r s i l d p a t)),.int .i64 0]=R):=zY (by rw[<-hR,if_neg (by simp)];simp)
 have HT:Hid (t.size=28):=zY h8
 have hap:∀x y:ByteArray,(x++y).size=x.size+y.size:=fun x y=>ByteArray.size_append
 have z1:∀n,(strB (beL n 1)).size=1:=fun n=>by rw[strB_size,beL_length]
 have z2:∀n,(strB (beL n 2)).size=2:=fun n=>by rw[strB_size,beL_length]
 have z4:∀n,(strB (beL n 4)).size=4:=fun n=>by rw[strB_size,beL_length]
 have zb:∀n,(strB (be4 n)).size=4:=fun n=>by rw[strB_size];rfl
 have mk:(k:Int)%4294967296=k:=by omega
 have mr:(r:Int)%4294967296=r:=by omega
 have ms:(s:Int)%4294967296=s:=by omega
 have mi:(i:Int)%4294967296=i:=by omega
 have ml:(l:Int)%4294967296=l:=by omega
 have md:IntKind.i64.wrap (16*(d:Int))=16*d:=by rw[IntKind.wrap_i64];omega
 have mp:IntKind.i64.wrap (16*(d:Int)+p)=16*d+p:=by rw[IntKind.wrap_i64];omega
 have mq:(16*(d:Int)+p)%4294967296=16*d+p:=by omega
 have wk:IntKind.u32.wrap (k:Int)=k:=by rw[IntKind.wrap_u32];omega
 have wr:IntKind.u32.wrap (r:Int)=r:=by rw[IntKind.wrap_u32];omega
 have ws:IntKind.u32.wrap (s:Int)=s:=by rw[IntKind.wrap_u32];omega
 have wi:IntKind.u32.wrap (i:Int)=i:=by rw[IntKind.wrap_u32];omega
 have wl:IntKind.u32.wrap (l:Int)=l:=by rw[IntKind.wrap_u32];omega
 have wq:IntKind.u32.wrap (16*(d:Int)+p)=16*d+p:=by rw[IntKind.wrap_u32];omega
 have HN1:Hid (∀(W:World) (n:Nat),n<256->Calls Tryz.prog 250 #[.int .u32 (n:Int),.int .i64 1] W fun e w'=>e=.returned (.string (strB (beL n 1)))/\Below W.heap.size W w'):=zY (fun W n hn=>fnumber_any W n 1 (by omega) (by omega))
 have HN2:Hid (∀(W:World) (n:Nat),n<65536->Calls Tryz.prog 250 #[.int .u32 (n:Int),.int .i64 2] W fun e w'=>e=.returned (.string (strB (beL n 2)))/\Below W.heap.size W w'):=zY (fun W n hn=>fnumber_any W n 2 (by omega) (by omega))
 have HN4:Hid (∀(W:World),Calls Tryz.prog 250 #[.int .u32 (a:Int),.int .i64 4] W fun e w'=>e=.returned (.string (strB (beL a 4)))/\Below W.heap.size W w'):=zY (fun W=>fnumber_any W a 4 HA.out (by omega))
 have HN6:Hid (∀(W:World),Calls Tryz.prog 250 #[.int .u32 (16*(d:Int)+p),.int .i64 1] W fun e w'=>e=.returned (.string (strB (beL (16*d+p) 1)))/\Below W.heap.size W w'):=zY (fun W=>by
  have h:=fnumber_any W (16*d+p) 1 (by omega) (by omega)
  push_cast at h
  exact h)
 have HZ:=zY (Box9.blk (Blk.new w 49 [.int .i64 k,.int .i64 r,.int .i64 s,.int .i64 i,.int .i64 l,.int .i64 d,.int .i64 p,.int .u32 a,.string t]))
 change Hid (Box9 (w.alloc (.cells #[.int .i64 k,.int .i64 r,.int .i64 s,.int .i64 i,.int .i64 l,.int .i64 d,.int .i64 p,.int .u32 a,.string t] 49)) _ _ _ _ _ _ _ _ _ _)at HZ
 clear h1 h2 h3 h4 h5 h6 h7 h8 hE hR ht ha
 go_enter Tryz.func170,Tryz.ntmps170
 go_upto_region 1 with fail
 generalize w.alloc (.cells #[.int .i64 k,.int .i64 r,.int .i64 s,.int .i64 i,.int .i64 l,.int .i64 d,.int .i64 p,.int .u32 a,.string t] 49)=wz at *
 obtain⟨c0,c1,c2,c3,c4,c5,c6,c7,c8⟩:=HZ.out
 go_upto_region 4 with(go_at_call 21;refine(HC.out _).mono ?_;rintro e wy ⟨rfl,hby⟩)
 have HZy:=zY (HZ.out.keep hby)
 have HBy:=zYt HB hby
 clear c0 c1 c2 c3 c4 c5 c6 c7 c8 hby HZ HB HC
 go_cut [5] (fun s5 wx=>s5=.string (strB (beL k 1++beL r 1++beL s 2++beL i 2))/\Below wy.heap.size wy wx)
 case first=>
  refine wp_region_held_drew (S:=(fun w'=>Box9 w' w.heap.size (.int .i64 k) (.int .i64 r) (.int .i64 s) (.int .i64 i) (.int .i64 l) (.int .i64 d) (.int .i64 p) (.int .u32 a) (.string t))) (by kernel_rfl) ?_ (fun hHeld=>?_)
  ·(repeat' (first|with_reducible (first|exact HZy.out|refine Box9.drw ?_|refine Box9.keep ?_ hb3|refine Box9.keep ?_ hb7|refine Box9.keep ?_ hb12|refine Box9.keep ?_ hb17)))
  refine tk 0 ?_
  refine tk 1 ?_
  refine tk 2 ?_
  refine tk 4 ?_
  refine tk 5 ?_
  refine tk 6 ?_
  refine tk 9 ?_
  refine tk 10 ?_
  refine tk 11 ?_
  refine tk 14 ?_
  refine tk 15 ?_
  refine tk 16 ?_
  refine zE1 3 fun K hK=>?_
  go_simp
  refine(HN1.out _ k HK.out).mono ?_
  rintro e w3 ⟨rfl,hb3⟩
  (try go_wp2_with fail)
  have shb3:=hb3.size
  (try change wy.heap.size<=_ at shb3)
  refine hko hK (by(repeat' (first|with_reducible (first|exact HZy.out|refine Box9.drw ?_|refine Box9.keep ?_ hb3|refine Box9.keep ?_ hb7|refine Box9.keep ?_ hb12|refine Box9.keep ?_ hb17)))) (fun _=>?_)
  clear hK K
  refine zE1 7 fun K hK=>?_
  go_simp
  refine(HN1.out _ r HRr.out).mono ?_
  rintro e w7 ⟨rfl,hb7⟩
  (try go_wp2_with fail)
  have shb7:=hb7.size
  (try change wy.heap.size<=_ at shb7)
  refine hko hK (by(repeat' (first|with_reducible (first|exact HZy.out|refine Box9.drw ?_|refine Box9.keep ?_ hb3|refine Box9.keep ?_ hb7|refine Box9.keep ?_ hb12|refine Box9.keep ?_ hb17)))) (fun _=>?_)
  clear hK K
  refine tk 8 ?_
  refine zE1 12 fun K hK=>?_
  go_simp
  refine(HN2.out _ s (Nat.lt_trans HS.out (by omega))).mono ?_
  rintro e w12 ⟨rfl,hb12⟩
  (try go_wp2_with fail)
  have shb12:=hb12.size
  (try change wy.heap.size<=_ at shb12)
  refine hko hK (by(repeat' (first|with_reducible (first|exact HZy.out|refine Box9.drw ?_|refine Box9.keep ?_ hb3|refine Box9.keep ?_ hb7|refine Box9.keep ?_ hb12|refine Box9.keep ?_ hb17)))) (fun _=>?_)
  clear hK K
  refine tk 13 ?_
  refine zE1 17 fun K hK=>?_
  go_simp
  refine(HN2.out _ i HI.out).mono ?_
  rintro e w17 ⟨rfl,hb17⟩
  (try go_wp2_with fail)
  have shb17:=hb17.size
  (try change wy.heap.size<=_ at shb17)
  refine hko hK (by(repeat' (first|with_reducible (first|exact HZy.out|refine Box9.drw ?_|refine Box9.keep ?_ hb3|refine Box9.keep ?_ hb7|refine Box9.keep ?_ hb12|refine Box9.keep ?_ hb17)))) (fun _=>?_)
  clear hK K
  refine tk 18 ?_
  refine tk 19 ?_
  refine wpAnyH_done (by kernel_rfl) ?_ _
  have eB:Below wy.heap.size wy w17:=by(repeat' (first|with_reducible (first|exact Below.refl _ _|refine Below.drew ?_|refine Below.trans ?_ (hb3.mono ?_)|refine Below.trans ?_ (hb7.mono ?_)|refine Below.trans ?_ (hb12.mono ?_)|refine Below.trans ?_ (hb17.mono ?_))|exact Nat.le_refl _|omega))
  clear hb3 hb7 hb12 hb17
  go_wp2_with fail
  go_meet
  exact⟨by rw[strB_cat,strB_cat,strB_cat],eB⟩
 case rest=>
  obtain⟨rfl,eB⟩:=hcut
  have HZc:=zY (HZy.out.keep eB)
  have HBc:=zYt HBy eB
  clear eB HZy HBy HN2
  have zt:=HT.out
  have zm:(strB (beL k 1++beL r 1++beL s 2++beL i 2)).size=6:=by rw[strB_size];simp[beL_length]
  obtain⟨m0,hm0⟩:=zNm (beL k 1++beL r 1++beL s 2++beL i 2)
  rw[hm0]
  rw[hm0]at zm
  go_upto_region 5 with fail
  go_cut [5] (fun s5 wx=>s5=.string (strB (m0++(beL l 1++beL (16*d+p) 1++beL a 4++bs t)))/\Below wc.heap.size wc wx)
  case first=>
   refine wp_region_held_drew (S:=(fun w'=>Box9 w' w.heap.size (.int .i64 k) (.int .i64 r) (.int .i64 s) (.int .i64 i) (.int .i64 l) (.int .i64 d) (.int .i64 p) (.int .u32 a) (.string t))) (by kernel_rfl) ?_ (fun hHeld=>?_)
   ·(repeat' (first|with_reducible (first|exact HZc.out|refine Box9.drw ?_|refine Box9.keep ?_ hc1|refine Box9.keep ?_ hc2|refine Box9.keep ?_ hc3)))
   refine tk 0 ?_
   refine tk 1 ?_
   refine tk 2 ?_
   refine tk 3 ?_
   refine tk 5 ?_
   refine tk 6 ?_
   refine tk 7 ?_
   refine tk 8 ?_
   refine tk 9 ?_
   refine tk 10 ?_
   refine tk 11 ?_
   refine tk 12 ?_
   refine tk 13 ?_
   refine tk 16 ?_
   refine tk 17 ?_
   refine tk 20 ?_
   refine tk 21 ?_
   refine zE1 4 fun K hK=>?_
   go_simp
   refine(HN1.out _ l HL.out).mono ?_
   rintro e v1 ⟨rfl,hc1⟩
   (try go_wp2_with fail)
   have shc1:=hc1.size
   (try change wc.heap.size<=_ at shc1)
   refine hko hK (by(repeat' (first|with_reducible (first|exact HZc.out|refine Box9.drw ?_|refine Box9.keep ?_ hc1|refine Box9.keep ?_ hc2|refine Box9.keep ?_ hc3)))) (fun _=>?_)
   clear hK K
   refine zE1 14 fun K hK=>?_
   go_simp
   refine(HN6.out _).mono ?_
   rintro e v2 ⟨rfl,hc2⟩
   (try go_wp2_with fail)
   have shc2:=hc2.size
   (try change wc.heap.size<=_ at shc2)
   refine hko hK (by(repeat' (first|with_reducible (first|exact HZc.out|refine Box9.drw ?_|refine Box9.keep ?_ hc1|refine Box9.keep ?_ hc2|refine Box9.keep ?_ hc3)))) (fun _=>?_)
   clear hK K
   refine tk 15 ?_
   refine zE1 18 fun K hK=>?_
   go_simp
   refine(HN4.out _).mono ?_
   rintro e v3 ⟨rfl,hc3⟩
   (try go_wp2_with fail)
   have shc3:=hc3.size
   (try change wc.heap.size<=_ at shc3)
   refine hko hK (by(repeat' (first|with_reducible (first|exact HZc.out|refine Box9.drw ?_|refine Box9.keep ?_ hc1|refine Box9.keep ?_ hc2|refine Box9.keep ?_ hc3)))) (fun _=>?_)
   clear hK K
   refine tk 19 ?_
   refine tk 22 ?_
   refine tk 23 ?_
   refine tk 24 ?_
   refine wpAnyH_done (by kernel_rfl) ?_ _
   have eB:Below wc.heap.size wc v3:=by(repeat' (first|with_reducible (first|exact Below.refl _ _|refine Below.drew ?_|refine Below.trans ?_ (hc1.mono ?_)|refine Below.trans ?_ (hc2.mono ?_)|refine Below.trans ?_ (hc3.mono ?_))|exact Nat.le_refl _|omega))
   clear hc1 hc2 hc3
   go_wp2_with fail
   go_meet
   exact⟨by rw[strB_cat,strB_cat,<-strB_cat m0,<-strB_cat _ (bs t),strB_bs],eB⟩
  case rest=>
   obtain⟨rfl,eB⟩:=hcut
   have HBd:=zYt HBc eB
   clear eB HZc HBc HN1 HN4 HN6
   have em:m0++(beL l 1++beL (16*d+p) 1++beL a 4++bs t)=msgL k r s i l d p a t:=by rw[<-hm0];unfold msgL;simp
   rw[em]
   have hz:(strB (msgL k r s i l d p a t)).size=40:=by rw[strB_size];unfold msgL;simp[beL_length,bs_len,HT.out]
   have HM:Hid (strB (marL k r s i l d p a t)=strB (msgL k r s i l d p a t)++strB (be4 (sumL [strB (msgL k r s i l d p a t)]))):=zY (by rw[strB_cat];rfl)
   have HR':=HR.out
   rw[HM.out]at HR'
   have HR2:=zY HR'
   clear em hm0 HR HM HR'
   generalize strB (msgL k r s i l d p a t)=M at *
   have HX:Hid (∀W:World,Calls Tryz.prog 249 #[.slice (some ⟨W.heap.size,0,none⟩) 1 1] (W.alloc (.cells #[.string M] 9)) fun e w'=>e=.returned (.int .u32 (sumL [M]:Nat))/\W.alloc (.cells #[.string M] 9)=w'):=zY (fun W=>
    csum_any _ _ [M] (Blk.slAt (f:=strV) (xs:=[M]) (Blk.new W 9 [.string M]) (c:=1) (by simp) (by omega)) (by intro x hx;rw[List.mem_singleton.1 hx];omega) (by simp))
   have HY:Hid (∀W:World,Calls Tryz.prog 251 #[.int .u32 (sumL [M]:Nat)] W fun e w'=>e=.returned (.string (strB (be4 (sumL [M]))))/\Below W.heap.size W w'):=zY (fun W=>cbytes_any W _ (sumL_lt _))
   go_wp2_with (first|(go_at_call 249;refine(HX.out _).mono ?_;rintro e w5 ⟨rfl,rfl⟩)|(go_at_call 251;refine(HY.out _).mono ?_;rintro e w6 ⟨rfl,hb6⟩))
   rw[<-HR2.out]
   exact bodyPost_ret (v:=.tuple #[.string (M++strB (be4 (sumL [M]))),.int .i64 0]) (by simp[results,Tryz.results170,go_sem]) rfl ⟨rfl,HBd.out.trans ((((Below.refl _ _).alloc (Nat.le_refl _) _).trans (hb6.mono (by simp))).mono HBd.out.size)⟩}
 {
 have HR:Hid (Value.tuple #[.string ⟨#[]⟩,.int .i64 E]=R):=zY (by rw[<-hR,if_pos h0])
 have h1:(E != 0)=true:=by simpa using h0
 clear hR hE
 go_enter Tryz.func170,Tryz.ntmps170
 go_wp2_with (go_at_call 21;refine(HC.out _).mono ?_;rintro e wy ⟨rfl,hby⟩)
 rw[<-HR.out]
 exact bodyPost_ret (v:=.tuple #[.string ⟨#[]⟩,.int .i64 E]) (by simp[results,Tryz.results170,go_sem]) rfl ⟨rfl,HB.out.trans (hby.mono HB.out.size)⟩
}
end
end Go.Proofs.YthgenkkkapilhaaGreatDoor
