/- The tables that Load lays. No conditions. -/
import Derived.Test.YtmkigppfdmghnaaGreatDoorILift
import Derived.Test.YtmkigppfdmghnaaGreatDoorVxHoare
import Derived.KernelRfl
set_option linter.all false
section
namespace Go.Vx
set_option maxRecDepth 100000
set_option linter.all false
def ldClass:List T_ranges_Row:=[⟨0,8,10⟩,⟨9,9,12⟩,⟨10,10,11⟩,⟨11,11,12⟩,⟨12,12,13⟩,⟨13,13,11⟩,⟨14,27,10⟩,⟨28,30,11⟩,⟨31,31,12⟩,⟨32,32,13⟩,⟨33,34,14⟩,⟨35,37,6⟩,⟨38,42,14⟩,⟨43,43,5⟩,⟨44,44,8⟩,⟨45,45,5⟩,⟨46,47,8⟩,⟨48,57,4⟩,⟨58,58,8⟩,⟨59,64,14⟩,⟨91,96,14⟩,⟨123,126,14⟩,⟨127,132,10⟩,⟨133,133,11⟩,⟨134,159,10⟩,⟨160,160,8⟩,⟨161,161,14⟩,⟨162,165,6⟩,⟨166,169,14⟩,⟨171,172,14⟩,⟨173,173,10⟩,⟨174,175,14⟩,⟨176,177,6⟩,⟨178,179,4⟩,⟨180,180,14⟩,⟨182,184,14⟩,⟨185,185,4⟩,⟨187,191,14⟩,⟨215,215,14⟩,⟨247,247,14⟩,⟨768,879,9⟩,⟨1424,1424,2⟩,⟨1425,1469,9⟩,⟨1470,1470,2⟩,⟨1471,1471,9⟩,⟨1472,1472,2⟩,⟨1473,1474,9⟩,⟨1475,1475,2⟩,⟨1476,1477,9⟩,⟨1478,1478,2⟩,⟨1479,1479,9⟩,⟨1480,1535,2⟩,⟨1536,1541,7⟩,⟨1542,1543,14⟩,⟨1544,1544,3⟩,⟨1545,1546,6⟩,⟨1547,1547,3⟩,⟨1548,1548,8⟩,⟨1549,1549,3⟩,⟨1550,1551,14⟩,⟨1552,1562,9⟩,⟨1563,1610,3⟩,⟨1611,1631,9⟩,⟨1632,1641,7⟩,⟨1642,1642,6⟩,⟨1643,1644,7⟩,⟨1645,1647,3⟩,⟨1648,1648,9⟩,⟨1649,1749,3⟩,⟨1750,1756,9⟩,⟨1757,1757,7⟩,⟨1758,1758,14⟩,⟨1759,1764,9⟩,⟨1765,1766,3⟩,⟨1767,1768,9⟩,⟨1769,1769,14⟩,⟨1770,1773,9⟩,⟨1774,1775,3⟩,⟨1776,1785,4⟩,⟨1786,1791,3⟩,⟨8192,8202,13⟩,⟨8203,8205,10⟩,⟨8207,8207,2⟩,⟨8208,8231,14⟩,⟨8232,8232,13⟩,⟨8233,8233,11⟩,⟨8234,8234,15⟩,⟨8235,8235,17⟩,⟨8236,8236,19⟩,⟨8237,8237,16⟩,⟨8238,8238,18⟩,⟨8239,8239,8⟩,⟨8240,8244,6⟩,⟨8245,8259,14⟩,⟨8260,8260,8⟩,⟨8261,8286,14⟩,⟨8287,8287,13⟩,⟨8288,8293,10⟩,⟨8294,8294,20⟩,⟨8295,8295,21⟩,⟨8296,8296,22⟩,⟨8297,8297,23⟩,⟨8298,8303,10⟩,⟨8592,8721,14⟩,⟨8722,8722,5⟩,⟨8723,8723,6⟩,⟨8724,9013,14⟩,⟨9472,9631,14⟩,⟨12288,12288,13⟩,⟨12289,12292,14⟩,⟨12296,12320,14⟩,⟨64285,64285,2⟩,⟨64286,64286,9⟩,⟨64287,64296,2⟩,⟨64297,64297,5⟩,⟨64298,64335,2⟩,⟨64336,64975,3⟩,⟨65136,65278,3⟩,⟨65279,65279,10⟩,⟨65529,65533,14⟩]
def ldWide:List T_ranges_Row:=[⟨768,879,1⟩,⟨1425,1469,1⟩,⟨1471,1471,1⟩,⟨1473,1474,1⟩,⟨1476,1477,1⟩,⟨1479,1479,1⟩,⟨1552,1562,1⟩,⟨1611,1631,1⟩,⟨1648,1648,1⟩,⟨1750,1756,1⟩,⟨1759,1764,1⟩,⟨1767,1768,1⟩,⟨1770,1773,1⟩,⟨4352,4447,3⟩,⟨8203,8207,1⟩,⟨8234,8238,1⟩,⟨8288,8303,1⟩,⟨11904,12350,3⟩,⟨12353,42191,3⟩,⟨44032,55203,3⟩,⟨63744,64255,3⟩,⟨64286,64286,1⟩,⟨65072,65135,3⟩,⟨65279,65279,1⟩,⟨65280,65376,3⟩,⟨65504,65510,3⟩,⟨127744,128591,3⟩,⟨129280,129535,3⟩,⟨131072,262141,3⟩]
def ldJoin:List T_ranges_Row:=[⟨768,879,4⟩,⟨1425,1469,4⟩,⟨1471,1471,4⟩,⟨1473,1474,4⟩,⟨1476,1477,4⟩,⟨1479,1479,4⟩,⟨1552,1562,4⟩,⟨1568,1568,2⟩,⟨1570,1573,1⟩,⟨1574,1574,2⟩,⟨1575,1575,1⟩,⟨1576,1576,2⟩,⟨1577,1577,1⟩,⟨1578,1582,2⟩,⟨1583,1586,1⟩,⟨1587,1599,2⟩,⟨1600,1600,3⟩,⟨1601,1607,2⟩,⟨1608,1609,1⟩,⟨1610,1610,2⟩,⟨1611,1631,4⟩,⟨1646,1647,2⟩,⟨1648,1648,4⟩,⟨1649,1651,1⟩,⟨1653,1655,1⟩,⟨1656,1671,2⟩,⟨1672,1689,1⟩,⟨1690,1727,2⟩,⟨1728,1728,1⟩,⟨1729,1730,2⟩,⟨1731,1739,1⟩,⟨1740,1740,2⟩,⟨1741,1741,1⟩,⟨1742,1742,2⟩,⟨1743,1743,1⟩,⟨1744,1745,2⟩,⟨1746,1747,1⟩,⟨1749,1749,1⟩,⟨1750,1756,4⟩,⟨1759,1764,4⟩,⟨1767,1768,4⟩,⟨1770,1773,4⟩,⟨1774,1775,1⟩,⟨1786,1788,2⟩,⟨1791,1791,2⟩,⟨8203,8203,4⟩,⟨8205,8205,3⟩,⟨64286,64286,4⟩]
def ldMirror:List T_ucd_Pair:=[⟨40,41⟩,⟨60,62⟩,⟨91,93⟩,⟨123,125⟩,⟨171,187⟩,⟨8249,8250⟩,⟨8712,8715⟩,⟨8804,8805⟩,⟨12296,12297⟩,⟨12298,12299⟩,⟨12300,12301⟩,⟨12302,12303⟩,⟨12304,12305⟩,⟨9484,9488⟩,⟨9487,9491⟩,⟨9492,9496⟩,⟨9495,9499⟩,⟨9500,9508⟩,⟨9507,9515⟩,⟨9556,9559⟩,⟨9562,9565⟩,⟨9568,9571⟩,⟨9581,9582⟩,⟨9584,9583⟩,⟨9585,9586⟩,⟨9588,9590⟩,⟨9612,9616⟩]
def ldBrackets:List T_ucd_Pair:=[⟨40,41⟩,⟨91,93⟩,⟨123,125⟩,⟨12296,12297⟩,⟨12298,12299⟩,⟨12300,12301⟩,⟨12302,12303⟩,⟨12304,12305⟩]
def ldForms:List T_ucd_Form:=[⟨1569,65152,1⟩,⟨1570,65153,2⟩,⟨1571,65155,2⟩,⟨1572,65157,2⟩,⟨1573,65159,2⟩,⟨1574,65161,4⟩,⟨1575,65165,2⟩,⟨1576,65167,4⟩,⟨1577,65171,2⟩,⟨1578,65173,4⟩,⟨1579,65177,4⟩,⟨1580,65181,4⟩,⟨1581,65185,4⟩,⟨1582,65189,4⟩,⟨1583,65193,2⟩,⟨1584,65195,2⟩,⟨1585,65197,2⟩,⟨1586,65199,2⟩,⟨1587,65201,4⟩,⟨1588,65205,4⟩,⟨1589,65209,4⟩,⟨1590,65213,4⟩,⟨1591,65217,4⟩,⟨1592,65221,4⟩,⟨1593,65225,4⟩,⟨1594,65229,4⟩,⟨1601,65233,4⟩,⟨1602,65237,4⟩,⟨1603,65241,4⟩,⟨1604,65245,4⟩,⟨1605,65249,4⟩,⟨1606,65253,4⟩,⟨1607,65257,4⟩,⟨1608,65261,2⟩,⟨1609,65263,2⟩,⟨1610,65265,4⟩]
def dLoad:T_ucd_Data:=⟨⟨ldClass⟩,⟨ldWide⟩,⟨ldJoin⟩,ldMirror,ldBrackets,ldForms⟩
def eqRows:List T_ranges_Row→List T_ranges_Row→Bool
 | [],[]=>true
 | a :: l,b :: m=>and (and (a.fLo == b.fLo) (and (a.fHi == b.fHi) (a.fV == b.fV))) (eqRows l m)
 | _,_=>false
def eqPairs:List T_ucd_Pair→List T_ucd_Pair→Bool
 | [],[]=>true
 | a :: l,b :: m=>and (and (a.fA == b.fA) (a.fB == b.fB)) (eqPairs l m)
 | _,_=>false
def eqForms:List T_ucd_Form→List T_ucd_Form→Bool
 | [],[]=>true
 | a :: l,b :: m=>and (and (a.fR == b.fR) (and (a.fAt == b.fAt) (a.fN == b.fN))) (eqForms l m)
 | _,_=>false
theorem eqRows_ok : ∀ {a b:List T_ranges_Row},eqRows a b=true→a=b
 | [],[],_=>rfl
 | ⟨a,b,c⟩ :: l,⟨d,e,f⟩ :: m,h=>by
  simp only [eqRows,Bool.and_eq_true,beq_iff_eq] at h
  obtain ⟨⟨rfl,rfl,rfl⟩,h⟩:=h
  rw [eqRows_ok h]
 | [],_ :: _,h=>by simp [eqRows] at h
 | _ :: _,[],h=>by simp [eqRows] at h
theorem eqPairs_ok : ∀ {a b:List T_ucd_Pair},eqPairs a b=true→a=b
 | [],[],_=>rfl
 | ⟨a,b⟩ :: l,⟨d,e⟩ :: m,h=>by
  simp only [eqPairs,Bool.and_eq_true,beq_iff_eq] at h
  obtain ⟨⟨rfl,rfl⟩,h⟩:=h
  rw [eqPairs_ok h]
 | [],_ :: _,h=>by simp [eqPairs] at h
 | _ :: _,[],h=>by simp [eqPairs] at h
theorem eqForms_ok : ∀ {a b:List T_ucd_Form},eqForms a b=true→a=b
 | [],[],_=>rfl
 | ⟨a,b,c⟩ :: l,⟨d,e,f⟩ :: m,h=>by
  simp only [eqForms,Bool.and_eq_true,beq_iff_eq] at h
  obtain ⟨⟨rfl,rfl,rfl⟩,h⟩:=h
  rw [eqForms_ok h]
 | [],_ :: _,h=>by simp [eqForms] at h
 | _ :: _,[],h=>by simp [eqForms] at h
def eqTab (o:Option T_ranges_Table) (l:List T_ranges_Row):Bool:=match o with
 | some t=>eqRows t.fL l
 | none=>false
theorem eqTab_ok {o:Option T_ranges_Table} {l:List T_ranges_Row} (h:eqTab o l=true):o=some ⟨l⟩:=by
 unfold eqTab at h
 split at h
 · rename_i t;obtain ⟨t⟩:=t;have h2:t=l:=eqRows_ok h;rw [h2]
 · cases h
def eqPs (o:Option (List T_ucd_Pair)) (l:List T_ucd_Pair):Bool:=match o with
 | some t=>eqPairs t l
 | none=>false
theorem eqPs_ok {o:Option (List T_ucd_Pair)} {l:List T_ucd_Pair} (h:eqPs o l=true):o=some l:=by
 unfold eqPs at h
 split at h
 · rw [eqPairs_ok h]
 · cases h
def eqFs' (o:Option (List T_ucd_Form)) (l:List T_ucd_Form):Bool:=match o with
 | some t=>eqForms t l
 | none=>false
theorem eqFs'_ok {o:Option (List T_ucd_Form)} {l:List T_ucd_Form} (h:eqFs' o l=true):o=some l:=by
 unfold eqFs' at h
 split at h
 · rw [eqForms_ok h]
 · cases h
theorem ld1:ucd_table_class kS1=some ⟨ldClass⟩:=eqTab_ok (by kernel_rfl)
theorem ld2:ucd_table_wide kS2=some ⟨ldWide⟩:=eqTab_ok (by kernel_rfl)
theorem ld3:ucd_table_join kS3=some ⟨ldJoin⟩:=eqTab_ok (by kernel_rfl)
theorem ld4:ucd_pairs kS4=some ldMirror:=eqPs_ok (by kernel_rfl)
theorem ld5:ucd_pairs kS5=some ldBrackets:=eqPs_ok (by kernel_rfl)
theorem ld6:ucd_forms kS6=some ldForms:=eqFs'_ok (by kernel_rfl)
theorem load_eq:ucd_Load=some dLoad:=by
 unfold ucd_Load
 rw [ld1,ld2,ld3,ld4,ld5,ld6];rfl
end Go.Vx
end
section
namespace Go.Vx
theorem awake_true:lapwinglaw16_awake=some true:=by
 unfold lapwinglaw16_awake
 rw [load_eq]
 kernel_rfl
end Go.Vx
end
