import Derived.Test.YtldolcbbmnmjoaaGreatM4
import Derived.Test.YtldolcbbmnmjoaaGreatRows
set_option maxRecDepth 8000
set_option maxHeartbeats 16000000
set_option linter.unusedVariables false
set_option linter.unusedSimpArgs false
set_option linter.unusedSectionVars false
set_option linter.defProp false
namespace Go.Proofs.YtldolcbbmnmjoaaGreat
open Go.Sl
def Ux:aI where
  fq:=[(7,[0,1,2,3]),(8,[0,1,2,3]),(13,[0,1]),(14,[0,1]),(18,[0]),(19,[0]),(24,[0,1,2,3,4,5]),(25,[0,1,2,3,4,5]),(33,[0,1,2,3,4]),(34,[0,1,2,3,4]),(35,[0,1,2]),(36,[0,1,2]),(41,[0,3,4,5,6,7,8,9,10,11,12,13,14]),(42,[0,3,4,5,6,7,8,9,10,11,12,13,14]),(45,[0,1,2,3,4,7,8,9,10,11]),(46,[0,1,2,3,4,7,8,9,10,11]),(47,[0,12,13,14,15]),(48,[0,12,13,14,15]),(54,[0,1,2]),(55,[0,1,2]),(57,[0,1,2,3,4,5]),(58,[0,1,2,3,4,5]),(67,[0,1]),(68,[0,1]),(71,[0,1,2,3]),(72,[0,1,2,3]),(74,[0,1]),(75,[0,1]),(77,[0,1]),(78,[0,1]),(93,[0,1,13,14,15,16,17,18]),(94,[0,1,13,14,15,16,17,18]),(97,[0,1,2]),(98,[0,1,2]),(101,[0,3]),(102,[0,3]),(106,[0,1,2,3]),(107,[0,1,2,3]),(112,[0,1,2]),(113,[0,1,2]),(114,[0,1,2]),(115,[0,1,2]),(127,[0,1,4,5,6,7,8]),(128,[0,1,4,5,6,7,8]),(131,[0,1,2,3,4,5,6,7]),(132,[0,1,2,3,4,5,6,7]),(146,[0,1,2,3]),(147,[0,1,2,3]),(156,[0,1,2]),(157,[0,1,2]),(166,[0,1,2]),(167,[0,1,2]),(171,[0,1]),(172,[0,1]),(194,[0,12,13]),(195,[0,12,13]),(204,[0,1]),(205,[0,1]),(206,[0,1,2]),(207,[0,1,2]),(218,[0,1]),(219,[0,1]),(235,[0,1]),(236,[0,1]),(242,[0]),(243,[0]),(245,[0,1,2,3]),(246,[0,1,2,3]),(255,[0,1,2,3]),(256,[0,1,2,3]),(262,[0,1]),(263,[0,1]),(276,[0,1,2,3]),(277,[0,1,2,3]),(283,[0,1,2,3]),(284,[0,1,2,3]),(286,[0,1]),(287,[0,1]),(306,[0,1,2]),(307,[0,1,2]),(361,[0,1,2,3]),(362,[0,1,2,3]),(374,[0,1,2,3,4]),(375,[0,1,2,3,4]),(382,[0,1]),(383,[0,1]),(387,[0,1,2,3,4,5,6,7]),(388,[0,1,2,3,4,5,6,7]),(394,[0,1,2,3]),(395,[0,1,2,3]),(406,[0,1]),(407,[0,1]),(424,[0,3,4,5]),(425,[0,3,4,5]),(433,[0,1]),(434,[0,1]),(439,[0,1]),(440,[0,1]),(474,[0,1,2,3]),(475,[0,1,2,3]),(485,[0,1,2,3,4,5,6,7,8,9,10]),(486,[0,1,2,3,4,5,6,7,8,9,10])]
  leaf:=[(1,()),(2,()),(3,()),(4,()),(5,()),(6,()),(9,()),(10,()),(11,()),(12,()),(15,()),(16,()),(17,()),(20,()),(21,()),(22,()),(23,()),(26,()),(27,()),(28,()),(29,()),(30,()),(31,()),(32,()),(37,()),(38,()),(39,()),(40,()),(43,()),(44,()),(50,()),(51,()),(53,()),(56,()),(59,()),(60,()),(61,()),(62,()),(63,()),(65,()),(66,()),(69,()),(70,()),(73,()),(76,()),(80,()),(81,()),(82,()),(83,()),(84,()),(85,()),(86,()),(88,()),(90,()),(91,()),(92,()),(95,()),(96,()),(99,()),(100,()),(104,()),(105,()),(108,()),(110,()),(111,()),(116,()),(117,()),(118,()),(120,()),(121,()),(122,()),(123,()),(125,()),(126,()),(129,()),(130,()),(134,()),(135,()),(136,()),(137,()),(138,()),(140,()),(141,()),(142,()),(143,()),(144,()),(145,()),(148,()),(149,()),(150,()),(151,()),(152,()),(154,()),(155,()),(158,()),(160,()),(161,()),(162,()),(163,()),(164,()),(165,()),(168,()),(169,()),(170,()),(174,()),(175,()),(177,()),(178,()),(179,()),(180,()),(181,()),(183,()),(184,()),(185,()),(186,()),(187,()),(188,()),(189,()),(190,()),(191,()),(193,()),(197,()),(198,()),(200,()),(201,()),(203,()),(209,()),(210,()),(211,()),(212,()),(213,()),(214,()),(215,()),(220,()),(221,()),(222,()),(224,()),(226,()),(227,()),(228,()),(230,()),(231,()),(232,()),(233,()),(234,()),(237,()),(238,()),(239,()),(240,()),(241,()),(248,()),(249,()),(250,()),(251,()),(253,()),(254,()),(257,()),(258,()),(259,()),(260,()),(261,()),(265,()),(266,()),(267,()),(268,()),(269,()),(270,()),(271,()),(272,()),(273,()),(275,()),(279,()),(280,()),(281,()),(282,()),(285,()),(289,()),(290,()),(291,()),(292,()),(293,()),(294,()),(296,()),(297,()),(298,()),(299,()),(300,()),(301,()),(302,()),(303,()),(304,()),(305,()),(308,()),(309,()),(310,()),(311,()),(312,()),(313,()),(314,()),(315,()),(316,()),(317,()),(318,()),(319,()),(320,()),(321,()),(322,()),(323,()),(324,()),(325,()),(326,()),(327,()),(328,()),(329,()),(330,()),(331,()),(332,()),(333,()),(334,()),(335,()),(336,()),(337,()),(338,()),(339,()),(340,()),(341,()),(342,()),(343,()),(344,()),(345,()),(346,()),(347,()),(348,()),(349,()),(350,()),(352,()),(353,()),(354,()),(355,()),(356,()),(357,()),(358,()),(360,()),(363,()),(364,()),(365,()),(366,()),(368,()),(369,()),(370,()),(371,()),(372,()),(373,()),(377,()),(379,()),(381,()),(385,()),(386,()),(389,()),(390,()),(391,()),(392,()),(393,()),(397,()),(399,()),(400,()),(401,()),(402,()),(403,()),(404,()),(405,()),(408,()),(409,()),(410,()),(411,()),(413,()),(414,()),(415,()),(416,()),(417,()),(418,()),(420,()),(421,()),(422,()),(423,()),(426,()),(427,()),(428,()),(430,()),(431,()),(432,()),(435,()),(436,()),(437,()),(438,()),(441,()),(442,()),(444,()),(445,()),(446,()),(447,()),(448,()),(449,()),(450,()),(451,()),(452,()),(453,()),(454,()),(455,()),(456,()),(457,()),(458,()),(459,()),(460,()),(461,()),(462,()),(463,()),(464,()),(465,()),(466,()),(467,()),(469,()),(470,()),(471,()),(472,()),(473,()),(479,()),(480,()),(481,()),(482,()),(483,()),(484,()),(487,()),(488,()),(489,())]
  vX:=[(7,4),(8,4),(13,2),(14,2),(18,1),(19,1),(24,6),(25,6),(33,5),(34,5),(35,3),(36,3),(41,15),(42,15),(45,12),(46,12),(47,16),(48,16),(54,3),(55,3),(57,6),(58,6),(67,2),(68,2),(71,6),(72,6),(74,2),(75,2),(77,2),(78,2),(93,19),(94,19),(97,3),(98,3),(101,4),(102,4),(106,6),(107,6),(112,3),(113,3),(114,3),(115,3),(127,9),(128,9),(131,8),(132,8),(146,4),(147,4),(156,3),(157,3),(166,3),(167,3),(171,2),(172,2),(194,14),(195,14),(204,2),(205,2),(206,3),(207,3),(216,128),(217,128),(218,129),(219,129),(235,2),(236,2),(242,1),(243,1),(245,4),(246,4),(255,4),(256,4),(262,13),(263,13),(276,4),(277,4),(283,4),(284,4),(286,2),(287,2),(306,3),(307,3),(361,4),(362,4),(367,16),(374,5),(375,5),(382,2),(383,2),(387,8),(388,8),(394,4),(395,4),(406,2),(407,2),(424,6),(425,6),(433,2),(434,2),(439,2),(440,2),(474,4),(475,4),(476,0),(477,0),(478,0),(485,11),(486,11)]
  H7:=[(23,34),(26,75),(27,63),(38,5),(39,38),(44,96),(51,68),(63,4),(86,3),(105,115),(123,122),(126,207),(138,136),(143,217),(145,219),(191,263),(198,205),(231,236),(251,126),(257,175),(267,46),(281,287),(282,287),(350,5),(358,407),(436,214)]
  ints:=[(2,.i64),(3,.i64),(5,.u8),(6,.u8),(12,.u64),(21,.i32),(22,.u16),(40,.u16),(43,.u64),(96,.u8),(158,.u64),(222,.u32),(373,.u8),(442,.i64),(458,.u64),(479,.u8),(480,.u8),(483,.i32),(484,.i32)]
  nY:=[(4,1,0),(9,2,0),(10,2,0),(11,2,0),(15,0,475),(16,0,478),(17,0,486),(29,0,42),(37,0,72),(69,0,107),(70,0,94),(91,0,128),(92,0,132),(108,0,147),(111,0,113),(129,0,167),(130,0,383),(169,0,40),(189,0,115),(201,0,284),(214,0,3),(215,0,98),(228,0,307),(254,0,256),(273,0,195),(293,0,282),(310,0,362),(311,0,46),(318,0,43),(389,0,434),(411,0,440),(418,0,425),(467,0,458),(482,0,5)]
theorem ah:Ux.ok Tryz.prog=true:=by kernel_rfl
theorem eH:cH Tryz.prog 38 5 (ib 0) 1 1:=⟨by kernel_rfl,by kernel_rfl,rfl,by simp[Value.cells,Value.oneCell']⟩
theorem yf:cH Tryz.prog 39 38 (.slice none 0 0) 1 24:=⟨by kernel_rfl,by kernel_rfl,rfl,by simp[Value.cells,Value.oneCell']⟩
theorem st_44:cH Tryz.prog 44 96 (ib 0) 1 1:=⟨by kernel_rfl,by kernel_rfl,rfl,by simp[Value.cells,Value.oneCell']⟩
theorem sA:cH Tryz.prog 51 68 (.agg #[ii 0,.slice none 0 0]) 2 32:=⟨by kernel_rfl,by kernel_rfl,rfl,by simp[Value.cells,Value.oneCell']⟩
theorem NI:cH Tryz.prog 63 4 (.bool false) 1 1:=⟨by kernel_rfl,by kernel_rfl,rfl,by simp[Value.cells,Value.oneCell']⟩
theorem st_86:cH Tryz.prog 86 3 (ii 0) 1 8:=⟨by kernel_rfl,by kernel_rfl,rfl,by simp[Value.cells,Value.oneCell']⟩
theorem st_126:cH Tryz.prog 126 207 (.agg #[ii 0,ii 0,.slice none 0 0]) 3 40:=⟨by kernel_rfl,by kernel_rfl,rfl,by simp[Value.cells,Value.oneCell']⟩
theorem st_191:cH Tryz.prog 191 263 (.agg #[.bool false,i8 0,i8 0,i8 0,ii 0,ii 0,ii 0,ii 0,ii 0,.bool false,.bool false,.slice none 0 0,ii 0]) 13 112:=⟨by kernel_rfl,by kernel_rfl,rfl,by simp[Value.cells,Value.oneCell']⟩
theorem st_198:cH Tryz.prog 198 205 (.agg #[i8 0,.slice none 0 0]) 2 32:=⟨by kernel_rfl,by kernel_rfl,rfl,by simp[Value.cells,Value.oneCell']⟩
theorem st_251:cH Tryz.prog 251 126 (.slice none 0 0) 1 24:=⟨by kernel_rfl,by kernel_rfl,rfl,by simp[Value.cells,Value.oneCell']⟩
theorem st_267:cH Tryz.prog 267 46 (.agg #[i8 0,i8 0,i8 0,ii 0,ii 0,ii 0,ii 0,ii 0,.bool false,.bool false,.slice none 0 0,ii 0]) 12 104:=⟨by kernel_rfl,by kernel_rfl,rfl,by simp[Value.cells,Value.oneCell']⟩
theorem st_282:cH Tryz.prog 282 287 (.agg #[ii 0,ii 0]) 2 16:=⟨by kernel_rfl,by kernel_rfl,rfl,by simp[Value.cells,Value.oneCell']⟩
theorem st_358:cH Tryz.prog 358 407 (.agg #[ii 0,ii 0]) 2 16:=⟨by kernel_rfl,by kernel_rfl,rfl,by simp[Value.cells,Value.oneCell']⟩
theorem st_436:cH Tryz.prog 436 214 (.pointer none) 1 8:=⟨by kernel_rfl,by kernel_rfl,rfl,by simp[Value.cells,Value.oneCell']⟩
theorem AB:bM Tryz.prog 36 [ii 0,ii 0,ii 0] [(0,1),(1,1),(2,1)]:=⟨λw=>by simp,_,Tryz.underlying36,λw=>by simp⟩
theorem QL:bM Tryz.prog 42 [ii 0,ii 0,ii 0,ii 0,.bool false,.pointer none,.slice none 0 0,.slice none 0 0,.slice none 0 0,ii 0,ii 0,.bool false,.bool false,i6 0,.bool false] [(0,3),(3,1),(4,1),(5,1),(6,1),(7,1),(8,1),(9,1),(10,1),(11,1),(12,1),(13,1),(14,1)]:=⟨λw=>by simp,_,Tryz.underlying42,λw=>by simp⟩
theorem sb_46:bM Tryz.prog 46 [i8 0,i8 0,i8 0,ii 0,ii 0,ii 0,ii 0,ii 0,.bool false,.bool false,.slice none 0 0,ii 0] [(0,1),(1,1),(2,1),(3,1),(4,3),(7,1),(8,1),(9,1),(10,1),(11,1)]:=⟨λw=>by simp,_,Tryz.underlying46,λw=>by simp⟩
theorem mM:bM Tryz.prog 48 [i8 0,i8 0,i8 0,ii 0,ii 0,ii 0,ii 0,ii 0,.bool false,.bool false,.slice none 0 0,ii 0,.bool false,.bool false,ii 0,ii 0] [(0,12),(12,1),(13,1),(14,1),(15,1)]:=⟨λw=>by simp,_,Tryz.underlying48,λw=>by simp⟩
theorem xZ:bM Tryz.prog 55 [i6 0,.slice none 0 0,ii 0] [(0,1),(1,1),(2,1)]:=⟨λw=>by simp,_,Tryz.underlying55,λw=>by simp⟩
theorem sb_58:bM Tryz.prog 58 [ib 0,ii 0,ii 0,ii 0,.slice none 0 0,.slice none 0 0] [(0,1),(1,1),(2,1),(3,1),(4,1),(5,1)]:=⟨λw=>by simp,_,Tryz.underlying58,λw=>by simp⟩
theorem Nr:bM Tryz.prog 68 [ii 0,.slice none 0 0] [(0,1),(1,1)]:=⟨λw=>by simp,_,Tryz.underlying68,λw=>by simp⟩
theorem UT:bM Tryz.prog 72 [.pointer none,.pointer none,ii 0,ii 0,ii 0,ii 0] [(0,1),(1,1),(2,1),(3,3)]:=⟨λw=>by simp,_,Tryz.underlying72,λw=>by simp⟩
theorem sb_94:bM Tryz.prog 94 [.pointer none,i8 0,i8 0,i8 0,ii 0,ii 0,ii 0,ii 0,ii 0,.bool false,.bool false,.slice none 0 0,ii 0,.pointer none,.pointer none,.bool false,i6 0,.bool false,.bool false] [(0,1),(1,12),(13,1),(14,1),(15,1),(16,1),(17,1),(18,1)]:=⟨λw=>by simp,_,Tryz.underlying94,λw=>by simp⟩
theorem sb_98:bM Tryz.prog 98 [ii 0,ii 0,ii 0] [(0,1),(1,1),(2,1)]:=⟨λw=>by simp,_,Tryz.underlying98,λw=>by simp⟩
theorem Nn:bM Tryz.prog 102 [ii 0,ii 0,ii 0,ii 0] [(0,3),(3,1)]:=⟨λw=>by simp,_,Tryz.underlying102,λw=>by simp⟩
theorem rh:bM Tryz.prog 107 [.slice none 0 0,.bool false,ii 0,ii 0,ii 0,ii 0] [(0,1),(1,1),(2,1),(3,3)]:=⟨λw=>by simp,_,Tryz.underlying107,λw=>by simp⟩
theorem sb_113:bM Tryz.prog 113 [.pointer none,.bool false,ii 0] [(0,1),(1,1),(2,1)]:=⟨λw=>by simp,_,Tryz.underlying113,λw=>by simp⟩
theorem sb_128:bM Tryz.prog 128 [.pointer none,ii 0,ii 0,ii 0,.pointer none,.bool false,.slice none 0 0,.slice none 0 0,.bool false] [(0,1),(1,3),(4,1),(5,1),(6,1),(7,1),(8,1)]:=⟨λw=>by simp,_,Tryz.underlying128,λw=>by simp⟩
theorem sb_132:bM Tryz.prog 132 [.pointer none,ii 0,i8 0,.pointer none,i8 0,.bool false,.pointer none,i6 0] [(0,1),(1,1),(2,1),(3,1),(4,1),(5,1),(6,1),(7,1)]:=⟨λw=>by simp,_,Tryz.underlying132,λw=>by simp⟩
theorem sb_147:bM Tryz.prog 147 [.slice none 0 0,.slice none 0 0,.map none,.bool false] [(0,1),(1,1),(2,1),(3,1)]:=⟨λw=>by simp,_,Tryz.underlying147,λw=>by simp⟩
theorem sb_157:bM Tryz.prog 157 [i8 0,i8 0,ii 0] [(0,1),(1,1),(2,1)]:=⟨λw=>by simp,_,Tryz.underlying157,λw=>by simp⟩
theorem sb_167:bM Tryz.prog 167 [ii 0,ii 0,ii 0] [(0,1),(1,1),(2,1)]:=⟨λw=>by simp,_,Tryz.underlying167,λw=>by simp⟩
theorem sb_172:bM Tryz.prog 172 [ii 0,i6 0] [(0,1),(1,1)]:=⟨λw=>by simp,_,Tryz.underlying172,λw=>by simp⟩
theorem sb_195:bM Tryz.prog 195 [i8 0,i8 0,i8 0,ii 0,ii 0,ii 0,ii 0,ii 0,.bool false,.bool false,.slice none 0 0,ii 0,.bool false,.bool false] [(0,12),(12,1),(13,1)]:=⟨λw=>by simp,_,Tryz.underlying195,λw=>by simp⟩
theorem sb_205:bM Tryz.prog 205 [i8 0,.slice none 0 0] [(0,1),(1,1)]:=⟨λw=>by simp,_,Tryz.underlying205,λw=>by simp⟩
theorem sb_207:bM Tryz.prog 207 [ii 0,ii 0,.slice none 0 0] [(0,1),(1,1),(2,1)]:=⟨λw=>by simp,_,Tryz.underlying207,λw=>by simp⟩
theorem sb_243:bM Tryz.prog 243 [i6 0] [(0,1)]:=⟨λw=>by simp,_,Tryz.underlying243,λw=>by simp⟩
theorem sb_246:bM Tryz.prog 246 [ii 0,ii 0,ii 0,ii 0] [(0,1),(1,1),(2,1),(3,1)]:=⟨λw=>by simp,_,Tryz.underlying246,λw=>by simp⟩
theorem sb_256:bM Tryz.prog 256 [.pointer none,.slice none 0 0,.slice none 0 0,.slice none 0 0] [(0,1),(1,1),(2,1),(3,1)]:=⟨λw=>by simp,_,Tryz.underlying256,λw=>by simp⟩
theorem sb_263:bM Tryz.prog 263 [.bool false,i8 0,i8 0,i8 0,ii 0,ii 0,ii 0,ii 0,ii 0,.bool false,.bool false,.slice none 0 0,ii 0] [(0,1),(1,12)]:=⟨λw=>by simp,_,Tryz.underlying263,λw=>by simp⟩
theorem sb_277:bM Tryz.prog 277 [.slice none 0 0,i8 0,ii 0,ii 0] [(0,1),(1,1),(2,1),(3,1)]:=⟨λw=>by simp,_,Tryz.underlying277,λw=>by simp⟩
theorem sb_284:bM Tryz.prog 284 [ii 0,.map none,.slice none 0 0,.slice none 0 0] [(0,1),(1,1),(2,1),(3,1)]:=⟨λw=>by simp,_,Tryz.underlying284,λw=>by simp⟩
theorem Sk:bM Tryz.prog 287 [ii 0,ii 0] [(0,1),(1,1)]:=⟨λw=>by simp,_,Tryz.underlying287,λw=>by simp⟩
theorem sb_307:bM Tryz.prog 307 [ii 0,.slice none 0 0,i6 0] [(0,1),(1,1),(2,1)]:=⟨λw=>by simp,_,Tryz.underlying307,λw=>by simp⟩
theorem sb_362:bM Tryz.prog 362 [.slice none 0 0,ii 0,i6 0,ii 0] [(0,1),(1,1),(2,1),(3,1)]:=⟨λw=>by simp,_,Tryz.underlying362,λw=>by simp⟩
theorem sb_375:bM Tryz.prog 375 [ii 0,ib 0,ii 0,.slice none 0 0,.slice none 0 0] [(0,1),(1,1),(2,1),(3,1),(4,1)]:=⟨λw=>by simp,_,Tryz.underlying375,λw=>by simp⟩
theorem sb_383:bM Tryz.prog 383 [ii 0,.slice none 0 0] [(0,1),(1,1)]:=⟨λw=>by simp,_,Tryz.underlying383,λw=>by simp⟩
theorem sb_388:bM Tryz.prog 388 [i8 0,i8 0,ii 0,ii 0,ii 0,ii 0,.bool false,.int .u32 0] [(0,1),(1,1),(2,1),(3,1),(4,1),(5,1),(6,1),(7,1)]:=⟨λw=>by simp,_,Tryz.underlying388,λw=>by simp⟩
theorem sb_395:bM Tryz.prog 395 [i8 0,i8 0,ii 0,.int .u32 0] [(0,1),(1,1),(2,1),(3,1)]:=⟨λw=>by simp,_,Tryz.underlying395,λw=>by simp⟩
theorem sb_407:bM Tryz.prog 407 [ii 0,ii 0] [(0,1),(1,1)]:=⟨λw=>by simp,_,Tryz.underlying407,λw=>by simp⟩
theorem sb_425:bM Tryz.prog 425 [ii 0,ii 0,ii 0,.slice none 0 0,.slice none 0 0,ii 0] [(0,3),(3,1),(4,1),(5,1)]:=⟨λw=>by simp,_,Tryz.underlying425,λw=>by simp⟩
theorem sb_434:bM Tryz.prog 434 [.int .u32 0,ii 0] [(0,1),(1,1)]:=⟨λw=>by simp,_,Tryz.underlying434,λw=>by simp⟩
theorem sb_440:bM Tryz.prog 440 [.slice none 0 0,ii 0] [(0,1),(1,1)]:=⟨λw=>by simp,_,Tryz.underlying440,λw=>by simp⟩
theorem TP:∀w,(zeroValue 38).run Tryz.prog w= .ok (.slice none 0 0) w:=λw=>by simp
theorem ze_267:∀w,(zeroValue 267).run Tryz.prog w= .ok (.slice none 0 0) w:=λw=>by simp
end Go.Proofs.YtldolcbbmnmjoaaGreat
namespace Go.Proofs.YtldolcbbmnmjoaaGreat
open Go.RowKit Go.Sl
attribute [local irreducible] Sl.Own
structure rE where
  m:Int
  c:Int
  s:Int
def rE.aX(g:rE):Prop:=(3<=g.m/\g.m<=16)/\(1<=g.c/\g.c<=16)/\(1<=g.s/\g.s<=256)
instance geoGoodDec (g:rE):Decidable g.aX:=by unfold rE.aX;exact inferInstance
abbrev rE.cells(g:rE):List Value:=[ii g.m,ii g.c,ii g.s]
abbrev rE.shape(g:rE):List Value:=[ii g.m,ii g.c,ii g.s,ii (IntKind.i64.wrap (g.m-1))]
theorem FQ{W:World}{R:List ab}(n a b:Int):az W Tryz.prog 42 [ii n,ii a,ii b] R (.bool (decide (a<=n/\n<=b))) R:=by
 refine ze Tryz.func42 Tryz.ntmps42 ?_;refine zg ?_ ?_<;>intro c
 ·
  have q:=cI c;refine w ?_;exact VE.ax rfl (by congr 1;rw[cN];omega) ae.refl
 ·
  have q:=dx c;refine w ?_;exact VE.ax rfl (by congr 1;symm;apply gx;omega) ae.refl
theorem jH{W:World}{R:List ab}(g:rE):az W Tryz.prog 20 [.agg g.cells.toArray] R (i6 (if g.aX then 0 else 60)) R:=by
 have bad:¬g.aX->(if g.aX then(0:Int)else 60)=60:=λh=>aE h;refine ze Tryz.func20 Tryz.ntmps20 ?_;refine zj λ_=>?_;refine zt (s:=FQ g.m 3 16) (h:=?_);intro _ _;refine w ?_;refine zg ?_ ?_<;>intro a;rotate_left
 ·
  have q:=dx a;refine w ?_;exact VE.ax rfl (by rw[bad (λh=>q ⟨h.1.1,h.1.2⟩)]) (ae.drop ae.refl)
 have d:=cI a;refine zt (s:=FQ g.c 1 16) (h:=?_);intro _ _;refine w ?_;refine zg ?_ ?_<;>intro a;rotate_left
 ·
  have q:=dx a;refine w ?_;exact VE.ax rfl (by rw[bad (λh=>q ⟨h.2.1.1,h.2.1.2⟩)]) (ae.drop ae.refl)
 have e:=cI a;refine zt (s:=FQ g.s 1 256) (h:=?_);intro _ _;refine w ?_;refine zk ?_ ?_<;>intro c
 ·
  have b:=cI c;refine w ?_;exact VE.ax rfl (by rw[lam ⟨d,e,b⟩]) (ae.drop ae.refl)
 ·
  have b:=dx c;refine w ?_;exact VE.ax rfl (by rw[bad (λh=>b h.2.2)]) (ae.drop ae.refl)
theorem Mi{W:World}{R:List ab}(g:rE):az W Tryz.prog 43 [.agg g.cells.toArray] R (.tuple #[.agg g.shape.toArray,i6 (if g.aX then 0 else 60)]) R:=by
 refine ze Tryz.func43 Tryz.ntmps43 ?_;refine zj λ_=>?_;refine zw ?_;refine ay.aB Nn rfl ?_;intro a;refine w ?_;refine zx [6] 7 [0,1,2,3,4,5,6,7,8] _ ?_;refine w ?_;refine VD.take rfl rfl rfl (af.build Nn rfl (show aC _ _ _=some g.shape by simp[aC,bR,Value.cells])) rfl ?_;refine zt (s:=jH g) (h:=?_);intro _ _;refine zS g.shape ?_;exact VE.results2 (.inl rfl) () rfl (aL.agg (vs:=g.shape) ah rfl rfl zm rfl rfl) (.tmp rfl) trivial rfl (ae.drop (ae.drop ae.refl))
abbrev yX(m c s:Nat):List Value:=[ii m,ii c,ii s,ii ((m-1:Nat):Int)]
abbrev cv(m c s:Nat):List Value:=[ii m,ii c,ii s]
theorem P2(m c s:Nat)(a:1<=m/\m<=16):rE.shape ⟨m,c,s⟩=yX m c s:=by
 have e:(m:Int)-1=((m-1:Nat):Int):=by omega
 unfold rE.shape yX;dsimp only;rw[e,IntWalk.i64_in _ ⟨by omega,by omega⟩]
theorem pP{W:World}{R:List ab}(m c s:Nat)(a:1<=c/\c<=16)(b:1<=s/\s<=256):az W Tryz.prog 44 [.agg (yX m c s).toArray] R (ii ((s*c:Nat):Int)) R:=by
 have h:s*c<=256*16:=RC b.2 a.2;refine ze Tryz.func44 Tryz.ntmps44 ?_;refine zj λ_=>?_;refine w ?_;exact VE.ax rfl (by congr 1) (ae.drop ae.refl)
def eD(m k:Nat):Nat:=m-1-k%m
theorem jV{m:Nat}(h:3<=m)(k:Nat):eD m k<m:=by unfold eD;omega
theorem qT{W:World}{R:List ab}(m c s:Nat)(f:3<=m/\m<=16)(k:Nat)(e:k<=4096):aq W Tryz.prog 241 [.agg (yX m c s).toArray,ii k] R (β:=Nat) (λz=>z=eD m k) (λz=>ii z) (λ_=>R):=by
 refine ze Tryz.func241 Tryz.ntmps241 ?_;refine zj λ_=>?_;refine w ?_;refine VC.quiet rfl (by kernel_rfl) (by kernel_rfl) ?_;refine w ?_;refine VQ.pure rfl rfl (af.rem (a:=k) (b:=m) rfl rfl zO) rfl ?_;have h:k%m<m:=qX _ zO;obtain⟨z,d⟩:∃z,k%m=z:=⟨_,rfl⟩;rw[d]at h⊢;refine w ?_;exact VE.done (m-1-z) rfl (by unfold eD;rw[d]) (by congr 1;omega) (ae.drop ae.refl)
theorem wO{W:World}{R:List ab}(m c s:Nat)(e:3<=m/\m<=16)(k i:Nat)(g:k<=4096)(j:i<=4096):aq W Tryz.prog 189 [.agg (yX m c s).toArray,ii k,ii i] R (β:=Nat) (λz=>z=(eD m k+1+i)%m) (λz=>ii z) (λ_=>R):=by
 refine ze Tryz.func189 Tryz.ntmps189 ?_;refine zj λ_=>?_;refine w ?_;refine zx [2] 9 [0,1,4,6,7,8,2,3,5,9,10] _ ?_;refine zt (s:=qT m c s e k g) (h:=?_);intro z f;have d:=jV e.1 k;rw[<-f]at d;refine w ?_;refine VD.end rfl rfl rfl (ay.pure (af.rem (a:=z+1+i) (b:=m) rfl rfl zO) rfl ?_);refine w ?_;exact VE.done ((z+1+i)%m) rfl (by rw[f]) rfl (ae.drop ae.refl)
theorem vC{W:World}{R:List ab}{m c s:Nat}(b:3<=m/\m<=16)(a:1<=c/\c<=16)(d:1<=s/\s<=256):az W Tryz.prog 43 [.agg (cv m c s).toArray] R (.tuple #[.agg (yX m c s).toArray,i6 0]) R:=by
 have h:=Mi (W:=W) (R:=R) ⟨m,c,s⟩;rw[P2 m c s zO,lam ⟨⟨by simp;omega,by simp;omega⟩,⟨by simp;omega,by simp;omega⟩,by simp;omega,by simp;omega⟩]at h;exact h
theorem gn{W:World}{R:List ab}{m c s:Nat}(d:3<=m/\m<=16)(a:1<=c/\c<=16)(b:1<=s/\s<=256):az W Tryz.prog 21 [.agg (cv m c s).toArray] R (ii ((s*c:Nat):Int)) R:=by
 refine ze Tryz.func21 Tryz.ntmps21 ?_;refine zj λ_=>?_;refine zt (s:=vC d a b) (h:=?_);intro _ _;refine zw ?_;refine ay.aB Nn rfl ?_;intro e;refine zS (yX m c s) ?_;refine zt (s:=pP m c s a b) (h:=?_);intro _ _;refine w ?_;exact VE.ax rfl rfl (ae.drop (ae.drop ae.refl))
theorem FN{W:World}{R:List ab}{m c s:Nat}(d:3<=m/\m<=16)(a:1<=c/\c<=16)(b:1<=s/\s<=256):az W Tryz.prog 158 [.agg (cv m c s).toArray] R (ii ((s*c* (m-1):Nat):Int)) R:=by
 refine ze Tryz.func158 Tryz.ntmps158 ?_;refine zj λ_=>?_;refine w ?_;refine zx [1] 5 [0,2,3,4,1,5,6] _ ?_;refine zt (s:=gn d a b) (h:=?_);intro _ _;have h:s*c<=256*16:=RC b.2 a.2;have f:s*c* (m-1)<=4096*15:=RC zO zO;refine w ?_;have e:(m:Int)-1=((m-1:Nat):Int):=by omega
 exact VE.ax rfl (by rw[e,<-Int.natCast_mul,IntWalk.i64_in _ ⟨by omega,by omega⟩]) (ae.drop ae.refl)
structure QU where
  SC:Nat
  row:Nat
  av:Nat
  RZ:Nat
abbrev cJ(m c k:Nat):QU:=⟨k/((m-1)*c),k/((m-1)*c)*c+k% ((m-1)*c)%c,(eD m (k/((m-1)*c))+1+k% ((m-1)*c)/c)%m,eD m (k/((m-1)*c))⟩
theorem zX{W:World}{R:List ab}{m c s:Nat}(u:3<=m/\m<=16)(e:1<=c/\c<=16)(B:1<=s/\s<=256){k:Nat}(H:k<s*c* (m-1)):
  aq W Tryz.prog 159 [.agg (cv m c s).toArray,ii k] R (β:=QU) (λx=>(x.row<s*c/\x.av<m)/\x=cJ m c k)
   (λx=>.tuple #[.agg #[ii x.SC,ii x.row,ii x.av,ii x.RZ],i6 0]) (λ_=>R):=by
 have h:s*c<=256*16:=RC B.2 e.2;have J:s*c* (m-1)<=4096*15:=RC zO zO;have K:(m-1)*c<=15*16:=RC zO e.2;have L:1*1<=(m-1)*c:=RC zO e.1;have p:k/((m-1)*c)<s:=mo (by rw[Aj ((m-1)*c),Aj (m-1),<-Nat.mul_assoc];exact H);have G:k% ((m-1)*c)<(m-1)*c:=qX _ zO;obtain⟨st,v⟩:∃q,k/((m-1)*c)=q:=⟨_,rfl⟩;rw[v]at p;refine ze Tryz.func159 Tryz.ntmps159 ?_;refine zj λ_=>?_;refine zw ?_;refine ay.aB sb_246 rfl ?_;intro N;refine zt (s:=vC u e B) (h:=?_);intro _ _;refine zw ?_;refine ay.aB Nn rfl ?_;intro O;refine zS (yX m c s) ?_;refine zx [5] 9 [0,1,2,3,4,6,7,5,8,9,10] _ ?_;refine w ?_;refine VD.gF rfl rfl rfl (gx zO) ?_;refine zt (s:=pP m c s e B) (h:=?_);intro _ _;have I:(k:Int)<((s*c:Nat):Int)* ((m-1:Nat):Int):=by rw[<-Int.natCast_mul];omega
 have C:(((m-1:Nat):Int)* (c:Int))=(((m-1)*c:Nat):Int):=(Int.natCast_mul _ _).symm;refine w ?_;refine VC.aK rfl rfl (gx zO) ?_;refine w ?_;refine VC.quiet rfl (by kernel_rfl) (by kernel_rfl) ?_;refine w ?_;refine VQ.re 37 (ii (((m-1)*c:Nat):Int)) rfl (by rw[C]) ?_;refine VQ.pure rfl rfl (af.quo (a:=k) (b:=(m-1)*c) rfl rfl zO (by rw[v];exact IntWalk.i64_in _ ⟨by omega,by omega⟩)) rfl ?_;rw[v];refine w ?_;refine VQ.re 45 (ii (((m-1)*c:Nat):Int)) rfl (by rw[C]) ?_;refine VQ.pure rfl rfl (af.rem (a:=k) (b:=(m-1)*c) rfl rfl zO) rfl ?_;obtain⟨i,f⟩:∃i,k% ((m-1)*c)=i:=⟨_,rfl⟩;rw[f]at G⊢;have D:st*c+i%c<s*c:=by
  have M:i%c<c:=qX _ zO;have F:(st+1)*c<=s*c:=u0 c p;rw[Tk]at F;omega
 refine w ?_;refine zx [19,22] 23 [0,1,2,3,4,5,6,7,8,9,10,11,12,13,14,15,16,17,18,20,21,19,22,23,24,25] _ ?_;obtain⟨j,t⟩:∃q,i/c=q:=⟨_,rfl⟩;have A:j<=4096:=by rw[<-t];exact RB (Nat.div_le_self _ _) zO
 obtain⟨y,d⟩:∃q,i%c=q:=⟨_,rfl⟩;rw[d]at D;have E:((st:Int)* (c:Int))=((st*c:Nat):Int):=(Int.natCast_mul _ _).symm;refine w ?_;refine VD.take rfl rfl rfl (af.rem (a:=i) (b:=c) rfl rfl zO) rfl ?_;rw[d];refine w ?_;refine VD.take rfl rfl rfl (af.quo (a:=i) (b:=c) rfl rfl zO (by rw[t];exact IntWalk.i64_in _ ⟨by omega,by omega⟩)) rfl ?_;rw[t];refine zt (s:=wO m c s u st j zO A) (h:=?_);intro r g;have l:r<m:=by rw[g];exact qX _ zO
 refine zt (s:=qT m c s u st zO) (h:=?_);intro z n;have o:=jV u.1 st;rw[<-n]at o;refine w ?_;refine VD.end rfl rfl rfl (ay.pure (af.build sb_246 rfl (show aC _ _ _=some [ii st,ii ((st:Int)* (c:Int)+(y:Int)),ii r,ii z]by simp[aC,bR,Value.cells])) rfl ?_);refine zS ([ii st,ii ((st:Int)* (c:Int)+(y:Int)),ii r,ii z]) ?_;refine VE.results2 (.inl rfl) (QU.mk st (st*c+y) r z) rfl (aL.agg (vs:=[ii st,ii ((st:Int)* (c:Int)+(y:Int)),ii r,ii z]) ah rfl rfl zm rfl rfl) (.tmp rfl) ⟨⟨D,l⟩,by rw[cJ,v,f,t,d,g,n]⟩ ?_ (ae.drop (ae.drop (ae.drop ae.refl)));rw[E];rfl
theorem FM{W:World}{R:List ab}{m c s:Nat}(l:3<=m/\m<=16)(d:1<=c/\c<=16)(j:1<=s/\s<=256)(k r:Int)(o:r<9223372036854775807):
  aq W Tryz.prog 128 [.agg (cv m c s).toArray,ii k,ii r] R (β:=Int×Bool) (λ_=>True)
   (λx=>.tuple #[ii x.1,.bool x.2,i6 (if(0<=k/\k<m)/\0<=r/\r<((s*c:Nat):Int)then 0 else 3)]) (λ_=>R):=by
 have h:s*c<=256*16:=RC j.2 d.2;refine ze Tryz.func128 Tryz.ntmps128 ?_;refine zj λ_=>?_;refine w ?_;refine zq ?_;refine zy rfl rfl (vC l d j) ?_;intro _ _;refine zw ?_;refine ay.aB Nn rfl ?_;intro p;refine zS (yX m c s) ?_
 iterate 3
  refine zg ?_ ?_<;>intro i
  ·
   have q:=cI i;refine w ?_;exact VE.done (0,false) rfl trivial (by rw[aE zO]) (ae.drop (ae.drop ae.refl))
  have q:=dx i
  clear i
  refine w ?_
 refine zq ?_;refine zy rfl rfl (pP m c s d j) ?_;intro _ _;refine w ?_;refine zk ?_ ?_<;>intro d
 ·
  have q:=cI d;refine w ?_;exact VE.done (0,false) rfl trivial (by rw[aE zO]) (ae.drop (ae.drop ae.refl))
 have q:=dx d;clear d;obtain⟨r,rfl⟩:=RA (show 0<=r by omega);obtain⟨k,rfl⟩:=RA (show 0<=k by omega);have aX:∀a b:Int,(if(0<=(k:Int)/\(k:Int)<m)/\0<=(r:Int)/\(r:Int)<((s*c:Nat):Int)then a else b)=a:=λa b=>lam zO;obtain⟨st,e⟩:∃q,r/c=q:=⟨_,rfl⟩;have n:st<=4096:=by rw[<-e];exact RB (Nat.div_le_self _ _) zO
 refine w ?_;refine VO.pure rfl rfl (af.quo (a:=r) (b:=c) rfl rfl zO (by rw[e];exact IntWalk.i64_in _ ⟨by omega,by omega⟩)) rfl ?_;rw[e];refine w ?_;refine zx [3] 12 [0,1,2,5,6,7,9,10,11,3,4,8,12,13] _ ?_;refine w ?_;refine zq ?_;refine zy rfl rfl (wO m c s l st 0 zO zO) ?_;intro g f;replace f:g<m:=by rw[f];exact qX _ zO
 refine w ?_;refine VD.re 54 (ii ((k+m-g:Nat):Int)) rfl (by congr 1;omega) ?_;refine VD.end rfl rfl rfl (ay.pure (af.rem (a:=k+m-g) (b:=m) rfl rfl zO) rfl ?_);refine w ?_;generalize(k+m-g)%m=z;refine zk ?_ ?_<;>intro d
 ·
  refine w ?_;exact VE.done (0,true) rfl trivial (by rw[aX]) (ae.drop (ae.drop ae.refl))
 refine w ?_;refine VC.quiet rfl (by kernel_rfl) (by kernel_rfl) ?_;refine w ?_;refine VQ.pure rfl rfl (af.rem (a:=r) (b:=c) rfl rfl zO) rfl ?_;refine w ?_;exact VE.done (_,false) rfl trivial (by rw[aX]) (ae.drop (ae.drop ae.refl))
end Go.Proofs.YtldolcbbmnmjoaaGreat
namespace Go.Proofs.YtldolcbbmnmjoaaGreat
open Go.RowKit Go.Sl
def gv(c:UInt8):Value:=ib (c.toNat:Int)
@[simp] theorem SN(c:UInt8):(gv c).oneCell'=true:=rfl
def bytes(l:List UInt8):List Value:=l.map gv
@[simp] theorem aQ(l:List UInt8):∀u∈bytes l,u.oneCell'=true:=by
  intro u a;obtain⟨c,_,rfl⟩:=fG.1 a;rfl
@[simp] theorem ff(l:List UInt8):(bytes l).length=l.length:=by simp[bytes]
theorem dQ(a b:List UInt8):bytes (a++b)=bytes a++bytes b:=by simp[bytes]
theorem dD(n:Nat):bytes (List.replicate n 0)=List.replicate n (ib 0):=by simp[bytes,gv]
structure Pk where
  size:Nat
  eT:List UInt8
  bad:Int
def Pk.ok(k:Pk):Prop:=k.eT.length<=k.size/\k.size<=4096/\(k.bad=0\/k.bad=10)
abbrev A1(p:Nat)(k:Pk)(ao:Option Addr)(cap:Nat)(R:List ab):List ab:=
  Row p 307 [ii k.size,.slice ao k.eT.length cap,i6 k.bad]::Own 5 1 (.slice ao k.eT.length cap) k.eT.length (bytes k.eT)::R
def aH(p:Nat)(k:Pk):ab:=ex λac:Option Addr×Nat=>Sl.star (fact k.ok::A1 p k ac.1 ac.2 [])
theorem aH.open{W w:World}{p:Nat}{k:Pk}{R:List ab}(a:Holds W (aH p k::R) w):∃x:{ac:Option Addr×Nat//k.ok},Holds W (A1 p k x.1.1 x.1.2 R) w:=by
 obtain⟨ac,h⟩:=a.gW;have h:=h.join;exact⟨⟨ac,h.iX⟩,h.tail⟩
theorem aH.shut{W:World}{p:Nat}{k:Pk}{R:List ab}(a:k.ok){ao:Option Addr}{cap:Nat}:ae W (A1 p k ao cap R) (aH p k::R):=λ_ b=>
 Holds.dU (ao,cap) (Holds.nest (L:=[_,_,_]) (b.gG a))
theorem aH.H5{W:World}{p:Nat}{k:Pk}{R:List ab}(a:k.ok){ao:Option Addr}{cap n:Nat}{xs:List Value}(b:n=k.eT.length)(c:xs=bytes k.eT):
  ae W (Row p 307 [ii k.size,.slice ao n cap,i6 k.bad]::Own 5 1 (.slice ao n cap) n xs::R) (aH p k::R):=by
 subst b c;exact aH.shut a
theorem aH.bH{W w:World}{p:Nat}{k:Pk}{R:List ab}(a:Holds W (aH p k::R) w):k.ok:=by
 obtain⟨⟨_,h⟩,_⟩:=aH.open a;exact h
def Pk.room(k:Pk)(n:Int):Pk:=if k.bad=0/\(k.size:Int)-k.eT.length<n then{k with bad:=10}else k
theorem PB{W:World}{R:List ab}(p:Nat)(k:Pk):
  az W Tryz.prog 283 [ip p] (aH p k::R) (ii ((k.size:Int)-k.eT.length)) (aH p k::R):=by
 (refine aq.enter Tryz.func283 Tryz.ntmps283 rfl rfl ?_);refine VC.obtain (λw=>aH.open) ?_;rintro⟨⟨ao,cap⟩,a⟩;have⟨b,c,d⟩:=a;refine w ?_;refine VC.quiet rfl (by kernel_rfl) (by kernel_rfl) ?_;refine w ?_;refine VE.ax rfl rfl ?_;exact aH.shut a
theorem B7{W:World}{R:List ab}(p:Nat)(k:Pk)(n:Int):
  az W Tryz.prog 237 [ip p,ii n] (aH p k::R) (.bool ((k.room n).bad==0)) (aH p (k.room n)::R):=by
 (refine aq.enter Tryz.func237 Tryz.ntmps237 rfl rfl ?_);refine VC.obtain (λw=>aH.open) ?_;rintro⟨⟨ao,cap⟩,a⟩;have⟨b,c,d⟩:=a;refine w ?_;refine zg ?_ ?_<;>intro f
 ·
  refine w ?_;refine zq ?_;refine ay.call rfl rfl (λ_ _=>by simp) (PB p k) (aH.shut a) rfl ?_;intro _ _;refine VO.obtain (λw=>aH.open) ?_;rintro⟨⟨ao,cap⟩,-⟩;refine w ?_;refine zk ?_ ?_<;>intro g
  ·
   refine w ?_;have e:k.room n={k with bad:=10}:=by unfold Pk.room;rw[lam];simp_all
   refine VE.ax rfl ?_ ?_
   · rw[e]
   · rw[e];exact aH.shut (k:={k with bad:=10}) ⟨b,c,.inr rfl⟩
  ·
   refine w ?_;have e:k.room n=k:=by unfold Pk.room;rw[aE];simp_all
   refine VE.ax rfl ?_ ?_
   · rw[e]
   · rw[e];exact aH.shut a
 ·
  refine w ?_;have e:k.room n=k:=by unfold Pk.room;rw[aE];simp_all
  refine VE.ax rfl ?_ ?_
  · rw[e]
  · rw[e];exact aH.shut a
def aJ(v:Nat):Nat->List UInt8
  |0=>[]
  |j+1=>aJ v j++[UInt8.ofNat (v/256^j)]
theorem bV(v j:Nat):(aJ v j).length=j:=by induction j<;>simp[aJ, *]
def Pk.number(k:Pk)(v width:Nat):Pk:=if(k.room width).bad=0 then{k with eT:=k.eT++aJ v width}else k.room width
theorem Pk.tJ{k:Pk}{n:Int}(h:(k.room n).bad=0):k.room n=k/\k.bad=0/\n<=(k.size:Int)-k.eT.length:=by
 unfold Pk.room at*;split at h
 · cases h
 ·
  rename_i a;rw[aE a];exact⟨rfl,h,by omega⟩
theorem TK(n:Nat):IntKind.u8.wrap (n:Int)=((UInt8.ofNat n).toNat:Int):=by
 simp only[IntKind.wrap,IntKind.bits,IntKind.signed,Bool.false_and,Bool.false_eq_true,if_false];simp
theorem pW{W:World}{R:List ab}(p:Nat)(k:Pk)(v width:Nat):
    az W Tryz.prog 239 [ip p,i8 v,ii width] (aH p k::R) (.tuple #[]) (aH p (k.number v width)::R):=by
  (refine aq.enter Tryz.func239 Tryz.ntmps239 rfl rfl ?_);refine VC.bH (λw=>aH.bH) ?_;intro⟨o,g,i⟩;refine zr (s:=B7 p k width) (h:=?_);intro _ _;refine w ?_;refine zk ?_ ?_<;>intro a
  · refine w ?_
    refine VE.ax rfl ?_ ?_
    · rfl
    · have c:¬(k.room width).bad=0:=by simpa using a
      rw[show k.number v width=k.room width by unfold Pk.number;rw[aE c]]
      exact ae.refl
  · refine w ?_
    have c:(k.room width).bad=0:=by simpa using a
    obtain⟨f,m,n⟩:=Pk.tJ c
    rw[f]
    refine VC.loop (α:=Nat) (λj=>j<=width) (λj=>aH p {k with eT:=k.eT++aJ v j}::R)
      (λj=>[(0,ip p),(1,i8 ((v/256^j:Nat):Int)),(10,ii width),(11,ii j)]) (λj=>width-j) rfl 0 (c7 _) ?_ ?_ ?_
    · simp only[aJ,mn];exact ae.refl
    · exact⟨rfl,b7 rfl (by simp),rfl,rfl,trivial⟩
    · intro j q
      refine w ?_
      refine zk ?_ ?_<;>intro a
      · have l:j<width:=by simpa using a
        refine VC.obtain (λw=>aH.open) ?_
        rintro⟨⟨ao,cap⟩,-⟩
        refine w ?_
        refine VO.re 19 (gv (UInt8.ofNat (v/256^j))) rfl (by rw[TK];rfl) ?_
        refine zq ?_;refine ay.bP eH rfl rfl (by(simp;done)) (by decide) rfl ?_;intro nb
        have e:(k.eT++aJ v j).length=k.eT.length+j:=by simp[bV]
        refine zq ?_;refine ay.cg eH rfl rfl zh zm rfl (by(simp;done)) ?_ ?_ rfl ?_
        · simp only[e,maxLen];omega
        · simp only[e];omega
        intro ao cap
        refine w ?_
        refine VE.round (j+1) zO zO ⟨rfl,b7 rfl (by rw[Nat.pow_succ,Nat.div_div_eq_div_mul];rfl),rfl,rfl,trivial⟩ ?_
        have b:(k.eT++aJ v (j+1)).length=k.eT.length+j+1:=by simp[bV];omega
        exact .drop (aH.H5 (k:={k with eT:=k.eT++aJ v (j+1)}) ⟨by simp only[b];omega,g,i⟩ (by simp only[e,b]) (by simp[bytes,aJ]))
      · have d:j=width:=by have:¬j<width:=by simpa using a
                           omega
        subst d
        refine w ?_
        refine VE.b9 rfl ?_ ?_
        · rfl
        · rw[show k.number v j={k with eT:=k.eT++aJ v j}by unfold Pk.number;rw[lam c]]
          exact ae.refl
theorem RE{W:World}{P:Program}{n:Nat}{H:List ab}{f:Fr}{dst:Option Tmp}{ty_:TypeId}{pos:String}{after:Array Edge}{guard:Option (Nat×Bool)}{T:aI}{x:Operand}{s:TypeId}{a:Addr}{k j:Nat}{l:List UInt8}(b:T.ok P=true)(g:aD f x=some (.pointer (some (a.add j))))(d:assoc T.leaf s=some ())(e:aV W H 1 (some a) k (bytes l))(c:j<l.length):
  af W P n H f {dst,op:= .load s x,type:=ty_,pos,after,guard} (ib (l[j].toNat:Int)):=
 af.rZ b g d e (by simp[bytes,gv,c])
theorem Gc{W:World}{R:List ab}(size:Nat)(a:size<=4096):
  aq W Tryz.prog 148 [ii size] R (β:=Nat) (λ_=>True) (λb=>.tuple #[ip b,i6 0]) (λb=>aH b ⟨size,[],0⟩::R):=by
 refine ze Tryz.func148 Tryz.ntmps148 ?_;refine VC.aK rfl rfl (by simp;omega) ?_;refine w ?_;apply VO.pure rfl rfl;apply af.build sb_307 rfl;simp[aC,bR,Value.cells];rfl;rfl;refine w ?_;refine zj λ_=>?_;refine w ?_;refine VE.done _ rfl trivial rfl ?_;exact λw c=>aH.H5 (k:=⟨size,[],0⟩) ⟨c7 _,a,.inl rfl⟩ rfl rfl w (Holds.swap (c.aZ 5 1))
theorem dB{v:Nat}(h:v<2^64):IntKind.u64.wrap (v:Int)=v:=by
 simp only[IntKind.wrap,IntKind.bits,IntKind.signed,Bool.false_and,Bool.false_eq_true,if_false];omega
theorem AU(v:Nat):IntKind.u32.wrap (v:Int)=((v%2^32:Nat):Int):=by
 simp only[IntKind.wrap,IntKind.bits,IntKind.signed,Bool.false_and,Bool.false_eq_true,if_false];omega
theorem AT(v:Nat):IntKind.u16.wrap (v:Int)=((v%2^16:Nat):Int):=by
 simp only[IntKind.wrap,IntKind.bits,IntKind.signed,Bool.false_and,Bool.false_eq_true,if_false];omega
theorem E1(v:Nat):IntKind.u8.wrap (v:Int)=((v%2^8:Nat):Int):=by
 simp only[IntKind.wrap,IntKind.bits,IntKind.signed,Bool.false_and,Bool.false_eq_true,if_false];omega
theorem GL{W:World}{R:List ab}(p:Nat)(k:Pk)(v:Nat):
  az W Tryz.prog 212 [ip p,i8 v] (aH p k::R) (.tuple #[]) (aH p (k.number v 8)::R):=by
 (refine aq.enter Tryz.func212 Tryz.ntmps212 rfl rfl ?_);refine zr (s:=pW p k v 8) (h:=?_);intro _ _;refine w ?_;exact VE.b9 rfl rfl ae.refl
theorem lJ{W:World}{R:List ab}(p:Nat)(k:Pk)(v:Nat)(a:v<2^64):
  az W Tryz.prog 153 [ip p,.int .u32 v] (aH p k::R) (.tuple #[]) (aH p (k.number v 4)::R):=by
 refine ze Tryz.func153 Tryz.ntmps153 ?_;refine VO.re 6 (i8 v) rfl (by rw[dB a]) ?_;refine zr (s:=pW p k v 4) (h:=?_);intro _ _;refine w ?_;exact VE.b9 rfl rfl ae.refl
theorem NZ{W:World}{R:List ab}(p:Nat)(k:Pk)(v:Nat)(a:v<2^64):
  az W Tryz.prog 227 [ip p,i6 v] (aH p k::R) (.tuple #[]) (aH p (k.number v 2)::R):=by
 refine ze Tryz.func227 Tryz.ntmps227 ?_;refine VO.re 6 (i8 v) rfl (by rw[dB a]) ?_;refine zr (s:=pW p k v 2) (h:=?_);intro _ _;refine w ?_;exact VE.b9 rfl rfl ae.refl
theorem N1{W:World}{R:List ab}(p:Nat)(k:Pk)(v:Nat)(a:v<2^64):
  az W Tryz.prog 218 [ip p,ib v] (aH p k::R) (.tuple #[]) (aH p (k.number v 1)::R):=by
 refine ze Tryz.func218 Tryz.ntmps218 ?_;refine VO.re 6 (i8 v) rfl (by rw[dB a]) ?_;refine zr (s:=pW p k v 1) (h:=?_);intro _ _;refine w ?_;exact VE.b9 rfl rfl ae.refl
def Pk.image(k:Pk):List UInt8:=k.eT++List.replicate (k.size-k.eT.length) 0
theorem rO{W:World}{R:List ab}(p:Nat)(k:Pk)(f:k.bad=0):
  aq W Tryz.prog 152 [ip p] (aH p k::R) (β:=Nat) (λ_=>True) (λb=>.tuple #[.slice (ik b) k.size k.size,i6 0])
   (λb=>Own 5 1 (.slice (ik b) k.size k.size) k.size (bytes k.image)::aH p k::R):=by
 (refine aq.enter Tryz.func152 Tryz.ntmps152 rfl rfl ?_);refine VC.obtain (λw=>aH.open) ?_;rintro⟨⟨ao,cap⟩,c⟩;have⟨g,h,i⟩:=c;refine w ?_;refine VC.aK rfl rfl (by simpa using f) ?_;refine zw ?_;refine ay.dd eH rfl rfl rfl ?_ ?_ rfl ?_
 · omega
 · simp only[maxLen];omega
 intro b;refine w ?_;refine zq ?_;refine ay.copy eH rfl rfl zh (λw a=>jW.own (aQ _) a zm) rfl ?_;have e:min k.eT.length k.size=k.eT.length:=by omega
 rw[e];refine w ?_;refine VE.done b rfl trivial rfl ?_;have d:(bytes k.eT).take (k.eT.length*1)++(List.replicate k.size (Value.int .u8 0)).drop (k.eT.length*1)=bytes k.image:=by
  rw[Pk.image,dQ,dD,Nat.mul_one,qy (by simp)];simp
 rw[d];exact λw a=>(aH.shut c w (a.fk (by(repeat first|exact .refl|(apply aP.cons;focus repeat first|exact .head|apply nW.tail)|exact .nil|apply aP.drop)))).swap
theorem xV{W:World}{R:List ab}{ao c:Option Addr}{n k cap cap':Nat}{a b:List UInt8}(l:aV W R 1 ao n (bytes a))(m:aV W R 1 c k (bytes b))(v:n<=maxLen):
    az W Tryz.prog 11 [.slice ao n cap,.slice c k cap'] R (.bool (decide (a=b))) R:=by
  have y:a.length=n:=by have:=l.len;simpa using this
  have z:b.length=k:=by have:=m.len;simpa using this
  unfold maxLen at v;refine ze Tryz.func11 Tryz.ntmps11 ?_;by_cases q:n=k
  · subst q
    refine VC.aK rfl rfl (by simp) ?_
    refine w ?_
    refine VC.loop (α:=Nat) (λj=>j<=n/\∀i (h:i<a.length)(g:i<b.length),i<j->a[i]=b[i]) (λj=>R)
      (λj=>[(0,.slice ao n cap),(1,.slice c n cap'),(5,ii j)]) (λj=>n-j) rfl 0 ⟨c7 _,λ_ _ _ h=>lcs h zO⟩ ae.refl zB ?_
    rintro j ⟨x,p⟩
    refine w ?_
    refine zk ?_ ?_<;>intro d
    · have u:j<n:=by simpa using d
      obtain⟨a0,rfl⟩:∃a0,ao=some a0:=by cases ao with|none=>have:=l.nil rfl;omega|some a0=>exact⟨a0,rfl⟩
      obtain⟨f,rfl⟩:∃f,c=some f:=by cases c with|none=>have:=m.nil rfl;omega|some f=>exact⟨f,rfl⟩
      have hb1:=l
      have hb2:=m
      refine w ?_
      refine VC.quiet rfl (by kernel_rfl) (by kernel_rfl) ?_;refine w ?_
      refine zk ?_ ?_<;>intro d
      · refine w ?_
        refine VE.ax rfl ?_ ?_
        · have o:a[j]'zO≠b[j]'zO:=by
            intro e;rw[e]at d;simp at d
          have:a≠b:=λe=>o (by subst e;rfl)
          simp[this]
        · exact ae.refl
      · refine w ?_
        have r:a[j]'zO=b[j]'zO:=by
          have:((a[j]'zO).toNat:Int)=((b[j]'zO).toNat:Int):=by simpa using d
          exact UInt8.toNat_inj.1 zO
        refine VE.round (j+1) ⟨by omega,λi h g t=>?_⟩ zO zB ae.refl
        by_cases e:i=j
        · subst e;exact r
        · exact p i h g zO
    · have s:j=n:=by have:¬j<n:=by simpa using d
                     omega
      refine w ?_
      refine VE.ax rfl ?_ ?_
      · have:a=b:=E6 zO λi h g=>p i h g zO
        simp[this]
      · exact ae.refl
  · refine VC.cU rfl rfl (by simp;omega) ?_
    refine w ?_
    refine VE.ax rfl ?_ ?_
    · have:a≠b:=λe=>q (by subst e;omega)
      simp[this]
    · exact ae.refl
end Go.Proofs.YtldolcbbmnmjoaaGreat
namespace Go.Sl
open Go Go.RowKit
section
variable{W w:World}{H R L M:List ab}{α:Type}{res:α->ab}
def cG(res:α->ab)(l:List α):ab:=star (l.map res)
theorem di(h:Holds W R w):Holds W (cG res []::R) w:=h.nest (L:=[])
theorem du{l:List α}{a:α}(h:Holds W (res a::cG res l::R) w):Holds W (cG res (l++[a])::R) w:=by
 have b:=(h.swap).join;refine Holds.nest ?_;rw[jv];refine b.perm ?_;simp
theorem Aw{l m:List α}(h:Holds W (cG res l::cG res m::R) w):Holds W (cG res (l++m)::R) w:=by
 have a:=(h.join).perm List.perm_append_comm;have b:Holds W (cG res m::(R++l.map res)) w:=a;have c:=b.join;refine Holds.nest ?_;rw[jv];refine c.perm ?_;rw[lx];refine(List.perm_append_comm (l₁:=m.map res)).trans ?_;rw[lx];refine(List.perm_append_comm (l₁:=R)).trans ?_;rw[lx]
theorem j4{l:List α}{i:Nat}(f:i<l.length)(h:Holds W (cG res l::R) w):Holds W (res l[i]::cG res (l.eraseIdx i)::R) w:=by
 have a:=h.join;have e:List.Perm l (l[i]::l.eraseIdx i):=by
  rw[List.eraseIdx_eq_take_drop_succ];have:l=l.take i++l[i]::l.drop (i+1):=by rw[<-vE f,QB]
  exact(List.Perm.of_eq this).trans xb
 have b:Holds W (res l[i]::((l.eraseIdx i).map res++R)) w:=a.perm (by simpa using((e.map res).append_right R))
 have c:Holds W ((l.eraseIdx i).map res++(R++[res l[i]])) w:=b.perm (by
  refine(List.perm_append_comm (l₁:=[res l[i]]) (l₂:=(l.eraseIdx i).map res++R)).trans ?_
  rw[lx])
 have d:Holds W (cG res (l.eraseIdx i)::(R++[res l[i]])) w:=c.nest;exact d.perm (List.perm_append_comm (l₁:=cG res (l.eraseIdx i)::R) (l₂:=[res l[i]]))
theorem aV.star{sz k:Nat}{ao:Option Addr}{xs:List Value}(m:Sl.star L∈H)(h:∀R,aV W (L++R) sz ao k xs):aV W H sz ao k xs:=by
 have a:=h [];refine⟨a.len,a.one,a.nil,λw b=>?_⟩;obtain⟨R,p⟩:=ja m;exact(h R).cell w (b.perm p).join
theorem aV.cG{sz k:Nat}{ao:Option Addr}{xs:List Value}{l:List α}{a:α}(m:Sl.cG res l∈H)(b:a∈l)(h:∀R,res a∈R->aV W R sz ao k xs):aV W H sz ao k xs:=
 aV.star (L:=l.map res) m (λR=>h _ (List.mem_append_left _ (List.mem_map_of_mem b)))
end
end Go.Sl
namespace Go.Proofs.YtldolcbbmnmjoaaGreat
open Go.RowKit Go.Sl
attribute [local irreducible] Own
structure aU where
  ao:Option Addr
  cap:Nat
  data:List UInt8
abbrev aU.ei(e:aU):Value:= .slice e.ao e.data.length e.cap
def aU.res(e:aU):ab:=Own 5 1 (.slice e.ao e.data.length e.cap) e.data.length (bytes e.data)
structure aU.ok(e:aU):Prop where
  nil:e.ao=none->e.data.length=0
  cap:e.data.length<=e.cap
theorem nM(l:List aU):∀u∈l.map aU.ei,u.oneCell'=true:=by
 intro u a;obtain⟨e,_,rfl⟩:=fG.1 a;rfl
theorem aU.gz{W:World}{H:List ab}{e:aU}(h:e.ok)(m:e.res∈H):aV W H 1 e.ao e.data.length (bytes e.data):=aV.own (aQ _) m (by simp) h.nil
theorem aU.bH{W w:World}{R:List ab}{e:aU}(h:Holds W (e.res::R) w):e.ok:=⟨h.bn (.head _),h.jd (.head _)⟩
structure qI(W:World)(R:List ab)(ao:Option Addr)(l:List aU):Prop where
  gz:aV W R 1 ao l.length (l.map aU.ei)
  each:∀e∈l,aV W R 1 e.ao e.data.length (bytes e.data)
  ok:∀e∈l,e.ok
abbrev iC(x:Option Addr×Nat)(l:List aU):ab:=Own 38 1 (.slice x.1 l.length x.2) l.length (l.map aU.ei)
abbrev cP(l:List aU):ab:=cG aU.res l
theorem qI.own{W:World}{H:List ab}{x:Option Addr×Nat}{l:List aU}(d:x.1=none->l.length=0)(a:∀e∈l,e.ok)(m1:iC x l∈H)(m2:cP l∈H):qI W H x.1 l:=
 ⟨aV.own (nM l) m1 (by simp) d,λe b=>aV.cG m2 b (λR c=>aU.gz (a e b) c),a⟩
theorem cP.bH{W w:World}{R:List ab}{l:List aU}(h:Holds W (cP l::R) w):∀e∈l,e.ok:=by
 intro e a;obtain⟨i,b,rfl⟩:=List.mem_iff_getElem.1 a;exact aU.bH (j4 b h)
structure aj where
  av:Int
  row:Int
  d:aU
abbrev aj.cells(p:aj):List Value:=[ii p.av,ii p.row,p.d.ei]
def bg(l:List aj):List Value:=l.flatMap aj.cells
def aj.res(p:aj):ab:=p.d.res
theorem dI(p:aj):∀u∈p.cells,u.oneCell'=true:=by simp[Value.oneCell']
theorem xG(l:List aj):∀u∈bg l,u.oneCell'=true:=by
 intro u a;obtain⟨p,_,h⟩:=Ai.1 a;exact dI p u h
theorem mJ(l:List aj):(bg l).length=l.length*3:=cW l (λ_ _=>rfl)
theorem si(l:List aj)(j i:Nat)(h:j<l.length)(a:i<3):(bg l)[j*3+i]?=(l[j].cells)[i]? :=vA l j i h (λ_ _=>rfl) a
theorem ke(l:List aj)(j:Nat)(h:j<l.length):((bg l).drop (j*3)).take 3=l[j].cells:=dW l j h (λ_ _=>rfl)
structure bq(W:World)(R:List ab)(ao:Option Addr)(l:List aj):Prop where
  gz:aV W R 3 ao l.length (bg l)
  each:∀p∈l,aV W R 1 p.d.ao p.d.data.length (bytes p.d.data)
  ok:∀p∈l,p.d.ok
abbrev bL(x:Option Addr×Nat)(l:List aj):ab:=Own 207 3 (.slice x.1 l.length x.2) l.length (bg l)
abbrev bX(l:List aj):ab:=cG aj.res l
theorem bq.own{W:World}{H:List ab}{x:Option Addr×Nat}{l:List aj}(d:x.1=none->l.length=0)(a:∀p∈l,p.d.ok)(m1:bL x l∈H)(m2:bX l∈H):bq W H x.1 l:=
 ⟨aV.own (xG l) m1 (mJ l) d,λp b=>aV.cG m2 b (λR c=>aU.gz (a p b) c),a⟩
theorem bq.aR{W:World}{H R:List ab}{ao:Option Addr}{l:List aj}(h:bq W R ao l)(e:ae W H R):bq W H ao l:=⟨h.gz.aR e,λx a=>(h.each x a).aR e,h.ok⟩
theorem bX.bH{W w:World}{R:List ab}{l:List aj}(h:Holds W (bX l::R) w):∀p∈l,p.d.ok:=by
 intro e a;obtain⟨i,b,rfl⟩:=List.mem_iff_getElem.1 a;exact aU.bH (j4 b h)
structure bF where
  seq:Nat
  ao:Option Addr
  cap:Nat
  aA:List aj
abbrev bF.cells(t:bF):List Value:=[i8 t.seq,.slice t.ao t.aA.length t.cap]
def gM(l:List bF):List Value:=l.flatMap bF.cells
def bF.res(t:bF):ab:=Sl.star [bL (t.ao,t.cap) t.aA,bX t.aA]
structure bF.ok(t:bF):Prop where
  nil:t.ao=none->t.aA.length=0
  cap:t.aA.length<=t.cap
  each:∀p∈t.aA,p.d.ok
theorem vO(p:bF):∀u∈p.cells,u.oneCell'=true:=by simp[Value.oneCell']
theorem NY(l:List bF):∀u∈gM l,u.oneCell'=true:=by
 intro u a;obtain⟨p,_,h⟩:=Ai.1 a;exact vO p u h
theorem NX(l:List bF):(gM l).length=l.length*2:=cW l (λ_ _=>rfl)
structure A8(W:World)(R:List ab)(ao:Option Addr)(l:List bF):Prop where
  gz:aV W R 2 ao l.length (gM l)
  each:∀t∈l,bq W R t.ao t.aA
  ok:∀t∈l,t.ok
abbrev iD(x:Option Addr×Nat)(l:List bF):ab:=Own 205 2 (.slice x.1 l.length x.2) l.length (gM l)
abbrev kG(l:List bF):ab:=cG bF.res l
theorem bF.bH{W w:World}{R:List ab}{t:bF}(h:Holds W (t.res::R) w):t.ok:=by
 have a:Holds W (bL (t.ao,t.cap) t.aA::bX t.aA::R) w:=h.join;exact⟨a.bn (.head _),a.jd (.head _),bX.bH a.tail⟩
theorem kG.bH{W w:World}{R:List ab}{l:List bF}(h:Holds W (kG l::R) w):∀t∈l,t.ok:=by
 intro e a;obtain⟨i,b,rfl⟩:=List.mem_iff_getElem.1 a;exact bF.bH (j4 b h)
theorem bF.rd{W:World}{H:List ab}{t:bF}(h:t.ok)(m:t.res∈H):bq W H t.ao t.aA:=by
 have q:∀R,bq W ([bL (t.ao,t.cap) t.aA,bX t.aA]++R) t.ao t.aA:=λR=>bq.own (x:=(t.ao,t.cap)) h.nil h.each (by simp) (by simp);exact⟨aV.star m λR=>(q R).gz,λp a=>aV.star m λR=>(q R).each p a,h.each⟩
theorem A8.own{W:World}{H:List ab}{x:Option Addr×Nat}{l:List bF}(d:x.1=none->l.length=0)(a:∀t∈l,t.ok)(m1:iD x l∈H)(m2:kG l∈H):A8 W H x.1 l:=by
 refine⟨aV.own (NY l) m1 (NX l) d,λt b=>?_,a⟩;exact⟨aV.cG m2 b (λR c=>(bF.rd (a t b) c).gz),λp e=>aV.cG m2 b (λR c=>(bF.rd (a t b) c).each p e),(a t b).each⟩
theorem bF.shut{W w:World}{R:List ab}(t:bF)(h:Holds W (bL (t.ao,t.cap) t.aA::bX t.aA::R) w):Holds W (t.res::R) w:=h.nest (L:=[bL (t.ao,t.cap) t.aA,bX t.aA])
end Go.Proofs.YtldolcbbmnmjoaaGreat
namespace Go.Proofs.YtldolcbbmnmjoaaGreat
open Go.RowKit Go.Sl
theorem gg{W:World}{R:List ab}{ao:Option Addr}{n cap:Nat}{xs:List Value}(d:aV W R 1 ao n xs)(g:n<=1099511627776):
    aq W Tryz.prog 193 [.slice ao n cap] R (β:=Option Addr×Nat) (λ_=>True) (λx=>.slice x.1 n x.2) (λx=>Own 5 1 (.slice x.1 n x.2) n xs::R):=by
  refine ze Tryz.func193 Tryz.ntmps193 ?_;cases ao with
  |none=>
    have e:=d.nil rfl;subst e;have f:xs=[]:=List.eq_nil_of_length_eq_zero (by simpa using d.len);subst f;refine VC.cU rfl rfl (rfl) ?_;refine w ?_;exact VE.done (none,0) rfl trivial rfl λw b=>b.aZ _ _
  |some a=>
    refine VC.aK rfl rfl (rfl) ?_;refine w ?_;refine zq ?_;refine ay.bP eH rfl rfl (by(simp;done)) (by decide) rfl ?_;intro nb;refine VO.aR (H':=Own 5 1 (.slice (ik nb) 0 0) 0 []::R) (λw b=>Holds.fS rfl (eI _) (by decide) rfl b) ?_;refine w ?_;refine VO.step rfl rfl ?_;refine ay.append eH rfl rfl .head (λw b=>(d.Kh (cap:=cap) b.tail).src eH.tZ) (by simp only[maxLen];omega) zO rfl ?_;intro c cap';simp only[PA,ou];refine w ?_;exact VE.done (c,cap') rfl trivial rfl ae.refl
structure Rk where
  b:List UInt8
  at_:Nat
  err:Int
  wh:Int
def Rk.ok(k:Rk):Prop:=k.at_<=k.b.length/\k.b.length<=1099511627776
abbrev lR(p:Nat)(k:Rk)(ao:Option Addr)(cap:Nat)(R:List ab):List ab:=
  Row p 362 [.slice ao k.b.length cap,ii k.at_,i6 k.err,ii k.wh]::Own 5 1 (.slice ao k.b.length cap) k.b.length (bytes k.b)::R
def aF(p:Nat)(k:Rk):ab:=ex λac:Option Addr×Nat=>Sl.star (fact k.ok::lR p k ac.1 ac.2 [])
theorem aF.open{W w:World}{p:Nat}{k:Rk}{R:List ab}(a:Holds W (aF p k::R) w):∃x:{ac:Option Addr×Nat//k.ok},Holds W (lR p k x.1.1 x.1.2 R) w:=by
 obtain⟨ac,h⟩:=a.gW;have h:=h.join;exact⟨⟨ac,h.iX⟩,h.tail⟩
theorem aF.shut{W:World}{p:Nat}{k:Rk}{R:List ab}(a:k.ok){ao:Option Addr}{cap:Nat}:ae W (lR p k ao cap R) (aF p k::R):=λ_ b=>
 Holds.dU (ao,cap) (Holds.nest (L:=[_,_,_]) (b.gG a))
theorem aF.bH{W w:World}{p:Nat}{k:Rk}{R:List ab}(a:Holds W (aF p k::R) w):k.ok:=by
 obtain⟨⟨_,h⟩,_⟩:=aF.open a;exact h
theorem sk{W:World}{R:List ab}{ao:Option Addr}{n cap:Nat}{l:List UInt8}(a:aV W R 1 ao n (bytes l))(c:n<=1099511627776):
  aq W Tryz.prog 255 [.slice ao n cap] R (β:=Nat) (λ_=>True) (λb=>ip b) (λb=>aF b ⟨l,0,0,0⟩::R):=by
 have e:l.length=n:=by have:=a.len;simpa using this
 refine aq.enter Tryz.func255 Tryz.ntmps255 rfl rfl ?_;refine zr (s:=gg a c) (h:=?_);rintro⟨d,cap'⟩-;refine w ?_;apply VO.pure rfl rfl;apply af.build sb_362 rfl;simp[aC,bR,Value.cells];rfl;rfl;refine w ?_;refine zj λ_=>?_;refine w ?_;subst e;exact VE.done _ rfl trivial rfl (aF.shut (k:=⟨l,0,0,0⟩) ⟨c7 _,c⟩)
theorem Eu{W:World}{R:List ab}(p:Nat)(k:Rk):
  az W Tryz.prog 312 [ip p] (aF p k::R) (ii ((k.b.length:Int)-k.at_)) (aF p k::R):=by
 (refine aq.enter Tryz.func312 Tryz.ntmps312 rfl rfl ?_);refine VC.obtain (λw=>aF.open) ?_;rintro⟨⟨ao,cap⟩,a⟩;have⟨b,c⟩:=a;refine w ?_;refine VC.quiet rfl (by kernel_rfl) (by kernel_rfl) ?_;refine w ?_;refine VE.ax rfl rfl ?_;exact aF.shut a
theorem Ep{W:World}{R:List ab}(p:Nat)(k:Rk)(e a:Int):
  az W Tryz.prog 282 [ip p,i6 e,ii a] (aF p k::R) (.tuple #[]) (aF p {k with err:=e,wh:=a}::R):=by
 (refine aq.enter Tryz.func282 Tryz.ntmps282 rfl rfl ?_);refine VC.obtain (λw=>aF.open) ?_;rintro⟨⟨ao,cap⟩,b⟩;refine w ?_;refine VE.b9 rfl rfl ?_;exact aF.shut (k:={k with err:=e,wh:=a}) b
def Rk.short(k:Rk)(n:Nat):Rk:=if k.err=0/\k.b.length-k.at_<n then{k with err:=11,wh:=k.at_}else k
def Rk.jk(k:Rk)(n:Nat):List UInt8:=if(k.short n).err=0 then(k.b.drop k.at_).take n else[]
theorem Rk.jM{k:Rk}{n:Nat}(h:(k.short n).err=0):k.short n=k/\k.err=0/\n<=k.b.length-k.at_:=by
 unfold Rk.short at*;split at h
 · cases h
 ·
  rename_i a;rw[aE a];exact⟨rfl,h,by omega⟩
theorem Rk.qS{k:Rk}{n:Nat}(h:(k.short n).err=0):(k.jk n).length=n:=by
 obtain⟨_,_,a⟩:=Rk.jM h;unfold Rk.jk;rw[lam h];simp;omega
theorem xz{W:World}{R:List ab}(p:Nat)(k:Rk)(n:Nat)(a:(k.short n).err≠0):
  az W Tryz.prog 272 [ip p,ii n] (aF p k::R) (.slice none 0 0) (aF p (k.short n)::R):=by
 (refine aq.enter Tryz.func272 Tryz.ntmps272 rfl rfl ?_);refine VC.obtain (λw=>aF.open) ?_;rintro⟨⟨ao,cap⟩,d⟩;have⟨g,h⟩:=d;refine w ?_;refine zg ?_ ?_<;>intro b
 ·
  refine w ?_;refine zq ?_;refine ay.call rfl rfl (λ_ _=>by simp) (Eu p k) (aF.shut d) rfl ?_;intro _ _;refine VO.obtain (λw=>aF.open) ?_;rintro⟨⟨ao,cap⟩,-⟩;have b:k.err=0:=by simpa using b
  refine w ?_;refine zk ?_ ?_<;>intro f
  ·
   have c:k.short n={k with err:=11,wh:=k.at_}:=by unfold Rk.short;rw[lam ⟨b,by simp at f;omega⟩]
   refine w ?_;refine zq ?_;refine ay.call rfl rfl (λ_ _=>by simp) (Ep p k 11 k.at_) (aF.shut d) rfl ?_;intro _ _;refine VO.obtain (λw=>aF.open) ?_;rintro⟨⟨ao,cap⟩,e⟩;refine w ?_;rw[c];refine VE.ax rfl rfl ?_;exact aF.shut e
  ·
   have c:k.short n=k:=by unfold Rk.short;rw[aE];simp at f;omega
   rw[c]at a;exact lcs b a
 ·
  have b:k.err≠0:=by simpa using b
  have c:k.short n=k:=by unfold Rk.short;rw[aE];omega
  refine w ?_;refine VC.cU rfl rfl (by simpa using b) ?_;refine w ?_;rw[c];refine VE.ax rfl rfl ?_;exact aF.shut d
theorem tr{W:World}{R:List ab}(p:Nat)(k:Rk)(n:Nat)(a:(k.short n).err=0):
  aq W Tryz.prog 272 [ip p,ii n] (aF p k::R) (β:=Option Addr×Nat)
   (λx=>k.b.length<=x.2) (λx=>.slice (jO x.1 x.2 k.at_ 1) n (x.2-k.at_)) (λx=>lR p k x.1 x.2 R):=by
 (refine aq.enter Tryz.func272 Tryz.ntmps272 rfl rfl ?_);refine VC.obtain (λw=>aF.open) ?_;rintro⟨⟨ao,cap⟩,d⟩;have⟨g,h⟩:=d;obtain⟨i,c,e⟩:=Rk.jM a;refine w ?_;refine VO.gT rfl rfl rfl (by simpa using c) ?_;refine w ?_;refine zq ?_;refine ay.call rfl rfl (λ_ _=>by simp) (Eu p k) (aF.shut d) rfl ?_;intro _ _;refine VO.obtain (λw=>aF.open) ?_;rintro⟨⟨ao,cap⟩,-⟩;refine w ?_;refine VC.aK rfl rfl (by simp;omega) ?_;refine w ?_;refine VC.aK rfl rfl (by simp[c]) ?_;refine VC.bH (λw f=>f.jd zm) ?_;intro b;refine w ?_;refine VC.quiet rfl (by kernel_rfl) (by kernel_rfl) ?_;refine w ?_;refine VE.done (ao,cap) rfl b ?_ ae.refl;show Value.slice _ (k.at_+n-k.at_) _=_;rw[Nat.add_sub_cancel_left]
theorem Bv{W:World}{k:Rk}{n:Nat}{ao:Option Addr}{cap:Nat}{H:List ab}(c:k.ok)(a:(k.short n).err=0)(b:k.b.length<=cap)(f:ao=none->k.b.length=0)
  (m:Own 5 1 (.slice ao k.b.length cap) k.b.length (bytes k.b)∈H):aV W H 1 (jO ao cap k.at_ 1) n (bytes (k.jk n)):=by
 obtain⟨j,i,d⟩:=Rk.jM a;have g:=c.1;have r:=aV.own (W:=W) (aQ k.b) m (by simp) f;have:=r.sub (cap:=cap) (l:=k.at_) (h:=k.at_+n) zO zO b;rw[Nat.add_sub_cancel_left]at this;have e:((bytes k.b).drop (k.at_*1)).take (n*1)=bytes (k.jk n):=by
  unfold Rk.jk;rw[lam a];simp[bytes]
 rw[e]at this;exact this
def dE:List UInt8->Nat
  |[]=>0
  |c::r=>c.toNat+256*dE r
theorem r4:∀l:List UInt8,dE l<256^l.length
  |[]=>by decide
  |c::r=>by
    have:=r4 r;have a:=c.toNat_lt;simp only[dE,tc,Nat.pow_succ];omega
theorem xe:∀(l:List UInt8)(c:UInt8),dE (l++[c])=dE l+c.toNat*256^l.length
  |[],c=>by simp[dE]
  |d::r,c=>by
    have:=xe r c;simp only[QD,dE,this,tc,Nat.pow_succ];rw[Nat.mul_add,ux,Nat.mul_left_comm,Aj (256^r.length)]
theorem MS(x y s:Nat)(c:x<2^s)(j:s<=64)(d:y*2^s<2^64):
  IntKind.u64.wrap ((BitVec.ofInt IntKind.u64.bits (x:Int)|||BitVec.ofInt IntKind.u64.bits (IntKind.u64.wrap ((y:Int)*2^min s IntKind.u64.bits))).toNat:Int)=((x+y*2^s:Nat):Int):=by
 have i:min s IntKind.u64.bits=s:=by simp[IntKind.bits];omega
 have a:x<2^64:=w8 c (Nat.pow_le_pow_right (by decide) j);rw[i];have e:((y:Int)*2^s)=((y*2^s:Nat):Int):=by simp
 rw[e,dB d];have f:(BitVec.ofInt IntKind.u64.bits (x:Int)).toNat=x:=by
  simp[IntKind.bits];omega
 have g:(BitVec.ofInt IntKind.u64.bits ((y*2^s:Nat):Int)).toNat=y*2^s:=by
  simp only[BitVec.toNat_ofInt,IntKind.bits];omega
 rw[BitVec.toNat_or,f,g];have b:x|||y*2^s=x+y*2^s:=by
  rw[Nat.or_comm,Aj,<-Nat.two_pow_add_eq_or_of_lt c];omega
 have h:x+y*2^s<2^64:=by
  rw[<-b];exact Nat.or_lt_two_pow a d
 rw[b,dB h]
theorem Tw(x c i:Nat)(b:x<256^i)(d:c<256)(e:i<8):
  IntKind.u64.wrap ((BitVec.ofInt IntKind.u64.bits (x:Int)|||BitVec.ofInt IntKind.u64.bits (IntKind.u64.wrap ((c:Int)*2^min (8*i) IntKind.u64.bits))).toNat:Int)=((x+c*256^i:Nat):Int):=by
 have a:(256:Nat)^i=2^(8*i):=by rw[Nat.pow_mul]
 rw[a]at b⊢;refine MS x c (8*i) b zO ?_
 calc c*2^(8*i)<256*2^(8*i):=Nat.mul_lt_mul_of_pos_right d (Nat.two_pow_pos _)
  _=2^(8+8*i):=by rw[Nat.pow_add]
  _<=2^64:=Nat.pow_le_pow_right (by decide) zO
def Rk.number(k:Rk)(width:Nat):Rk:=if(k.short width).err=0 then{k with at_:=k.at_+width}else k.short width
theorem nL{W:World}{R:List ab}(p:Nat)(k:Rk)(width:Nat)(D:width<=8):
    az W Tryz.prog 275 [ip p,ii width] (aF p k::R) (i8 (dE (k.jk width))) (aF p (k.number width)::R):=by
  (refine aq.enter Tryz.func275 Tryz.ntmps275 rfl rfl ?_);refine VC.bH (λw=>aF.bH) ?_;intro t;have⟨E,u⟩:=t;refine w ?_;by_cases a:(k.short width).err=0
  · obtain⟨G,x,z⟩:=Rk.jM a
    refine zr (s:=tr p k width a) (h:=?_)
    rintro⟨ao,cap⟩ c
    refine VO.bH (λw C=>C.bn zm) ?_
    intro b
    have q:=Bv (W:=W) (n:=width) (H:=lR p k ao cap R) t a c b zm
    have y:=Rk.qS a
    refine w ?_
    refine VC.loop (α:=Nat) (λj=>j<=width) (λj=>lR p k ao cap R)
      (λj=>[(0,ip p),(1,ii width),(5,i8 ((dE ((k.jk width).take j):Nat):Int)),(10,.slice (jO ao cap k.at_ 1) width (cap-k.at_)),(11,ii width),(12,ii j)])
      (λj=>width-j) rfl 0 (c7 _) ae.refl zB ?_
    intro j F
    refine w ?_
    refine zk ?_ ?_<;>intro r
    · have A:j<width:=by simpa using r
      obtain⟨a0,f⟩:∃a0,jO ao cap k.at_ 1=some a0:=by
        cases e:jO ao cap k.at_ 1 with
        |none=>have:=q.nil e;omega
        |some a0=>exact⟨a0,rfl⟩
      rw[f]at q⊢
      have hb1:=q
      refine w ?_
      have g:=((k.jk width)[j]'zO).toNat_lt
      refine zq ?_;refine ay.pure (af.shl rfl rfl zO) rfl ?_
      refine w ?_
      have B:(k.jk width).take (j+1)=(k.jk width).take j++[(k.jk width)[j]'zO]:=by rw[nZ zO]
      have d:((k.jk width).take j).length=j:=by rw[j1];omega
      have o:=Tw (dE ((k.jk width).take j)) ((k.jk width)[j]'zO).toNat j (by have:=r4 ((k.jk width).take j);rw[d]at this;exact this) g zO
      refine VE.round (j+1) zO zO ⟨rfl,rfl,b7 rfl ?_,rfl,rfl,rfl,trivial⟩ ae.refl
      rw[B,xe,d,<-o,dB (v:=((k.jk width)[j]'zO).toNat) zO,show(8* (j:Int)).toNat=8*j by omega]
    · have i:j=width:=by have:¬j<width:=by simpa using r
                         omega
      subst i
      refine w ?_
      refine VC.cU rfl rfl (by simp[x]) ?_
      refine w ?_
      refine VE.ax rfl ?_ ?_
      · rw[qy zO]
      · rw[show k.number j={k with at_:=k.at_+j}by unfold Rk.number;rw[lam a]]
        exact aF.shut (k:={k with at_:=k.at_+j}) ⟨by simp only;omega,u⟩
  · refine zr (s:=xz p k width a) (h:=?_);intro _ _
    have l:k.jk width=[]:=by unfold Rk.jk;rw[aE a]
    refine w ?_
    refine VC.loop (α:=Unit) (λ_=>True) (λ_=>aF p (k.short width)::R)
      (λ_=>[(0,ip p),(1,ii width),(5,i8 0),(11,ii 0),(12,ii 0)])
      (λ_=>0) rfl () trivial ae.refl zB ?_
    intro _ _
    refine w ?_
    refine VO.obtain (λw=>aF.open) ?_
    rintro⟨⟨ao,cap⟩,m⟩
    refine w ?_
    refine VC.aK rfl rfl (by simpa using a) ?_
    refine w ?_
    rw[l]
    refine VE.ax rfl ?_ ?_
    · rfl
    · rw[show k.number width=k.short width by unfold Rk.number;rw[aE a]]
      exact aF.shut m
theorem Rk.eo{k:Rk}{n:Nat}(a:k.err=0)(b:n<=k.b.length-k.at_):k.jk n=(k.b.drop k.at_).take n/\k.short n=k/\k.number n={k with at_:=k.at_+n}:=by
 have e:k.short n=k:=by unfold Rk.short;rw[aE];omega
 refine⟨?_,e,?_⟩
 · unfold Rk.jk;rw[e,lam a]
 · unfold Rk.number;rw[e,lam a]
theorem sZ(k:Rk)(n:Nat):dE (k.jk n)<256^n:=by
 have h:=r4 (k.jk n);refine w8 h (Nat.pow_le_pow_right (by decide) ?_);unfold Rk.jk;split
 · simp;omega
 · simp
theorem Gp{W:World}{R:List ab}(p:Nat)(k:Rk):
  az W Tryz.prog 213 [ip p] (aF p k::R) (i8 (dE (k.jk 8))) (aF p (k.number 8)::R):=by
 (refine aq.enter Tryz.func213 Tryz.ntmps213 rfl rfl ?_);refine zr (s:=nL p k 8 (by decide)) (h:=?_);intro _ _;refine w ?_;exact VE.ax rfl rfl ae.refl
theorem nK{W:World}{R:List ab}(p:Nat)(k:Rk):
  az W Tryz.prog 256 [ip p] (aF p k::R) (.int .u32 (dE (k.jk 4))) (aF p (k.number 4)::R):=by
 (refine aq.enter Tryz.func256 Tryz.ntmps256 rfl rfl ?_);refine zr (s:=nL p k 4 (by decide)) (h:=?_);intro _ _;refine w ?_;refine VE.ax rfl ?_ ?_
 · rw[AU,nE (by have:=sZ k 4;omega)]
 · exact ae.refl
theorem R8{W:World}{R:List ab}(p:Nat)(k:Rk):
  az W Tryz.prog 228 [ip p] (aF p k::R) (i6 (dE (k.jk 2))) (aF p (k.number 2)::R):=by
 (refine aq.enter Tryz.func228 Tryz.ntmps228 rfl rfl ?_);refine zr (s:=nL p k 2 (by decide)) (h:=?_);intro _ _;refine w ?_;refine VE.ax rfl ?_ ?_
 · rw[AT,nE (by have:=sZ k 2;omega)]
 · exact ae.refl
theorem M5{W:World}{R:List ab}(p:Nat)(k:Rk):
  az W Tryz.prog 219 [ip p] (aF p k::R) (ib (dE (k.jk 1))) (aF p (k.number 1)::R):=by
 (refine aq.enter Tryz.func219 Tryz.ntmps219 rfl rfl ?_);refine zr (s:=nL p k 1 (by decide)) (h:=?_);intro _ _;refine w ?_;refine VE.ax rfl ?_ ?_
 · rw[E1,nE (by have:=sZ k 1;omega)]
 · exact ae.refl
theorem Tc{W:World}{R:List ab}(p:Nat)(k:Pk):
  az W Tryz.prog 151 [ip p] (aH p k::R) (ii k.eT.length) (aH p k::R):=by
 (refine aq.enter Tryz.func151 Tryz.ntmps151 rfl rfl ?_);refine VC.obtain (λw=>aH.open) ?_;rintro⟨⟨ao,cap⟩,a⟩;refine w ?_;refine VE.ax rfl rfl ?_;exact aH.shut a
theorem Pk.cA{k:Pk}{v w:Nat}(a:k.bad=0)(b:k.eT.length+w<=k.size):k.number v w={k with eT:=k.eT++aJ v w}:=by
 have e:k.room w=k:=by unfold Pk.room;rw[aE];omega
 unfold Pk.number;rw[e,lam a]
end Go.Proofs.YtldolcbbmnmjoaaGreat
namespace Go.Sl
def Bj:BitVec 32:=0x82f63b78#32
def fz(n:BitVec 32):BitVec 32:=(n>>>1)^^^(if n.getLsbD 0 then Bj else 0#32)
def iz:Nat->BitVec 32->BitVec 32
  |0,n=>n
  |k+1,n=>iz k (fz n)
theorem EL(a b:Nat)(n:BitVec 32):iz (a+b) n=iz b (iz a n):=by
 induction a generalizing n with
 |zero=>rw[PA];rfl
 |succ a c=>rw[Nat.succ_add];exact c (fz n)
theorem P8(a b:BitVec 32):fz (a^^^b)=fz a^^^fz b:=by
 unfold fz;rw[BitVec.getLsbD_xor];apply BitVec.eq_of_getLsbD_eq;intro i c;simp only[BitVec.getLsbD_xor,BitVec.getLsbD_ushiftRight];cases a.getLsbD 0<;>cases b.getLsbD 0<;>simp<;>cases a.getLsbD (1+i)<;>cases b.getLsbD (1+i)<;>cases Bj.getLsbD i<;>rfl
theorem NL(n:BitVec 32)(h:n.getLsbD 0=false):fz n=n>>>1:=by
 unfold fz;rw[h];simp
theorem EM:∀(k:Nat)(a b:BitVec 32),iz k (a^^^b)=iz k a^^^iz k b
 |0,_,_=>rfl
 |k+1,a,b=>by rw[iz,P8,EM k];rfl
theorem yi:∀(k:Nat)(n:BitVec 32),(∀i,i<k->n.getLsbD i=false)->iz k n=n>>>k
  |0,n,_=>by simp[iz]
  |k+1,n,h=>by
    rw[iz,NL n (h 0 (by omega)),yi k _ (λi a=>by rw[BitVec.getLsbD_ushiftRight,BG];exact h (i+1) (by omega))];rw[<-BitVec.shiftRight_add,BG]
theorem yj(n:BitVec 32):iz 4 n=(n>>>4)^^^iz 4 (n&&& 15#32):=by
 have e:n=(n&&& 0xfffffff0#32)^^^(n&&& 15#32):=by
  apply BitVec.eq_of_getLsbD_eq;intro i b;rw[BitVec.getLsbD_xor,BitVec.getLsbD_and,BitVec.getLsbD_and];have:(0xfffffff0#32).getLsbD i=!(15#32).getLsbD i:=by
   have a:∀j:Fin 32,(0xfffffff0#32).getLsbD j.1=!(15#32).getLsbD j.1:=by decide
   exact a ⟨i,b⟩
  rw[this];cases n.getLsbD i<;>cases(15#32).getLsbD i<;>rfl
 have c:iz 4 (n&&& 0xfffffff0#32)=n>>>4:=by
  rw[yi 4 _ (λi b=>by
   rw[BitVec.getLsbD_and];have a:∀j:Fin 4,(0xfffffff0#32).getLsbD j.1=false:=by decide
   rw[a ⟨i,b⟩,Bool.and_false])]
  apply BitVec.eq_of_getLsbD_eq;intro i b;rw[BitVec.getLsbD_ushiftRight,BitVec.getLsbD_ushiftRight,BitVec.getLsbD_and];by_cases h:4+i<32
  ·
   have a:∀j:Fin 28,(0xfffffff0#32).getLsbD (4+j.1)=true:=by decide
   rw[a ⟨i,by omega⟩,Bool.and_true]
  · rw[BitVec.getLsbD_of_ge n _ zO];rfl
 conv=>lhs;rw[e]
 rw[EM,c]
def LQ(n:BitVec 32)(b:UInt8):BitVec 32:=iz 8 (n^^^BitVec.ofNat 32 b.toNat)
def rP(n:BitVec 32)(l:List UInt8):BitVec 32:=l.foldl LQ n
def sT(n:BitVec 32)(l:List UInt8):BitVec 32:= ~~~(rP (~~~n) l)
def cV(l:List UInt8):BitVec 32:=sT 0#32 l
theorem Bi(n:BitVec 32)(b:UInt8):LQ n b=
  (((((n^^^BitVec.ofNat 32 b.toNat)>>>4)^^^iz 4 ((n^^^BitVec.ofNat 32 b.toNat)&&& 15#32))>>>4)^^^iz 4 ((((n^^^BitVec.ofNat 32 b.toNat)>>>4)^^^iz 4 ((n^^^BitVec.ofNat 32 b.toNat)&&& 15#32))&&& 15#32)):=by
 unfold LQ;rw[show(8:Nat)=4+4 from rfl,EL,yj (iz 4 _),yj (n^^^_)]
end Go.Sl
namespace Go.Proofs.YtldolcbbmnmjoaaGreat
open Go.RowKit Go.Sl
def iI(n:Nat)(l:List UInt8):List UInt8:=l++List.replicate (n-l.length) 0
theorem kM{n:Nat}{l:List UInt8}(h:l.length<=n):(iI n l).length=n:=by simp[iI];omega
def bQ:List UInt8:=[83,80,74,76]
def ll(kind epoch seq:Nat):List UInt8:=bQ++aJ kind 4++aJ epoch 8++aJ seq 8
theorem gl(kind epoch seq:Nat):(ll kind epoch seq).length=24:=by simp[ll,bV,bQ]
def cE(b:List UInt8):List UInt8:=b++aJ (cV b).toNat 4
def kC(kind epoch seq:Nat)(rest:List UInt8):List UInt8:=iI 124 (ll kind epoch seq++rest)
theorem nO{kind epoch seq:Nat}{rest:List UInt8}(h:rest.length<=100):(kC kind epoch seq rest).length=124:=kM (by rw[c9,gl];omega)
theorem nN{b:List UInt8}(h:b.length=124):(cE b).length=128:=by simp[cE,bV,h]
def aO(b:List UInt8)(a w:Nat):Nat:=dE ((b.drop a).take w)
def lZ(b:List UInt8):UInt8:=if b.length=128/\b.take 4=bQ/\(b.getD 4 0).toNat<=3 then b.getD 4 0 else 0
def cX(b:List UInt8)(kind:UInt8):Int:=if b.length≠128 then 4 else if lZ b≠kind then 80 else if aO b 124 4≠(cV (b.take 124)).toNat then 81 else 0
theorem jU:∀(w v:Nat),aJ v (w+1)=UInt8.ofNat v::aJ (v/256) w
  |0,v=>by simp[aJ]
  |w+1,v=>by
    rw[aJ,jU w v,aJ,QD,Nat.div_div_eq_div_mul,Nat.pow_succ,Aj]
theorem tf:∀(w v:Nat),v<256^w->dE (aJ v w)=v
  |0,v,h=>by simp at h;subst h;rfl
  |w+1,v,h=>by
    rw[jU,dE,tf w (v/256) (by rw[Nat.pow_succ]at h;exact mo (by omega)),UInt8.toNat_ofNat'];have:=Nat.mod_add_div v 256;omega
def fq(a:List (Nat×Nat)):List UInt8:=a.flatMap λp=>aJ p.1 p.2
def ov(a:List (Nat×Nat))(k:Nat):Nat:=((a.take k).map (·.2)).sum
theorem uu(a b:List (Nat×Nat)):fq (a++b)=fq a++fq b:=by simp[fq]
theorem fi:∀(a:List (Nat×Nat)),(fq a).length=(a.map (·.2)).sum
 |[]=>rfl
 |p::r=>by rw[fq,Oi,c9,bV,BI,List.sum_cons,<-fi r];rfl
theorem xC(a l:List UInt8)(i w:Nat):aO (a++l) (a.length+i) w=aO l i w:=by
 unfold aO;rw[List.drop_append,List.drop_of_length_le zO];simp
theorem xB(v w:Nat)(c:List UInt8)(a:v<256^w):aO (aJ v w++c) 0 w=v:=by
 unfold aO;rw[KP,DL (bV v w),tf w v a]
theorem q4:∀(a:List (Nat×Nat))(k:Nat)(p:Nat×Nat)(c:List UInt8),a[k]?=some p->p.1<256^p.2->aO (fq a++c) (ov a k) p.2=p.1
  |[],k,p,c,h,_=>by simp at h
  |q::r,0,p,c,h,b=>by
    simp at h;subst h;show aO (aJ q.1 q.2++fq r++c) 0 q.2=q.1;rw[lx];exact xB _ _ _ b
  |q::r,k+1,p,c,h,b=>by
    have d:=q4 r k p c (by simpa using h) b;have e:ov (q::r) (k+1)=(aJ q.1 q.2).length+ov r k:=by simp[ov,bV]
    rw[e];show aO (aJ q.1 q.2++fq r++c) _ _=_;rw[lx,xC];exact d
theorem DT:∀n,aJ 0 n=List.replicate n 0
 |0=>rfl
 |n+1=>by rw[jU,Nat.zero_div,DT n];rfl
structure aM where
  epoch:Nat
  seq:Nat
  index:Int
  count:Int
  av:Int
  row:Int
  cw:Bool
  sum:Nat
abbrev aM.cells(h:aM):List Value:=[i8 h.epoch,i8 h.seq,ii h.index,ii h.count,ii h.av,ii h.row,.bool h.cw,.int .u32 h.sum]
structure bZ where
  epoch:Nat
  seq:Nat
  count:Int
  sum:Nat
abbrev bZ.cells(h:bZ):List Value:=[i8 h.epoch,i8 h.seq,ii h.count,.int .u32 h.sum]
structure bJ where
  epoch:Nat
  seq:Nat
  tail:Int
abbrev bJ.cells(h:bJ):List Value:=[i8 h.epoch,i8 h.seq,ii h.tail]
def dJ(epoch seq:Nat):Prop:=epoch<=4611686018427387904/\1<=seq/\seq<=4611686018427387904
instance (a b:Nat):Decidable (dJ a b):=by unfold dJ;exact inferInstance
def aM.aX(h:aM):Prop:=dJ h.epoch h.seq/\(1<=h.count/\h.count<=1023)/\(0<=h.index/\h.index<=h.count-1)/\(0<=h.av/\h.av<=15)/\0<=h.row/\h.row<=4095
def bZ.aX(h:bZ):Prop:=dJ h.epoch h.seq/\1<=h.count/\h.count<=1023
def bJ.aX(h:bJ):Prop:=dJ h.epoch h.seq/\0<=h.tail/\h.tail<=2047
instance (h:aM):Decidable h.aX:=by unfold aM.aX;exact inferInstance
instance (h:bZ):Decidable h.aX:=by unfold bZ.aX;exact inferInstance
instance (h:bJ):Decidable h.aX:=by unfold bJ.aX;exact inferInstance
def mB(b:Bool):Nat:=if b then 1 else 0
def aM.rest(h:aM):List (Nat×Nat):=[(h.index.toNat,4),(h.count.toNat,4),(h.av.toNat,4),(h.row.toNat,4),(mB h.cw,4),(h.sum,4)]
def bZ.rest(h:bZ):List (Nat×Nat):=[(h.count.toNat,4),(h.sum,4)]
def bJ.rest(h:bJ):List (Nat×Nat):=[(h.tail.toNat,4)]
def eN(kind epoch seq:Nat)(rest:List (Nat×Nat)):List UInt8:=cE (kC kind epoch seq (fq rest))
def aM.enc(h:aM):Int×List UInt8:=if h.aX then(0,eN 1 h.epoch h.seq h.rest)else(80,[])
def bZ.enc(h:bZ):Int×List UInt8:=if h.aX then(0,eN 2 h.epoch h.seq h.rest)else(80,[])
def bJ.enc(h:bJ):Int×List UInt8:=if h.aX then(0,eN 3 h.epoch h.seq h.rest)else(80,[])
def aM.parse(b:List UInt8):aM:=⟨aO b 8 8,aO b 16 8,aO b 24 4,aO b 28 4,aO b 32 4,aO b 36 4,decide (aO b 40 4=1),aO b 44 4⟩
def bZ.parse(b:List UInt8):bZ:=⟨aO b 8 8,aO b 16 8,aO b 24 4,aO b 28 4⟩
def bJ.parse(b:List UInt8):bJ:=⟨aO b 8 8,aO b 16 8,aO b 24 4⟩
def j6:aM:=⟨0,0,0,0,0,0,false,0⟩
def oe:bZ:=⟨0,0,0,0⟩
def og:bJ:=⟨0,0,0⟩
def aM.dec(b:List UInt8):Int×aM:=if cX b 1≠0 then(cX b 1,j6)else if(aM.parse b).aX/\(aM.parse b).enc.2=b then(0,aM.parse b)else(80,j6)
def bZ.dec(b:List UInt8):Int×bZ:=if cX b 2≠0 then(cX b 2,oe)else if(bZ.parse b).aX/\(bZ.parse b).enc.2=b then(0,bZ.parse b)else(80,oe)
def bJ.dec(b:List UInt8):Int×bJ:=if cX b 3≠0 then(cX b 3,og)else if(bJ.parse b).aX/\(bJ.parse b).enc.2=b then(0,bJ.parse b)else(80,og)
theorem JI:bQ=aJ 1279938643 4:=by decide
theorem GC(kind epoch seq:Nat)(rest:List (Nat×Nat))(h:(rest.map (·.2)).sum<=100):
  eN kind epoch seq rest=fq ([(1279938643,4),(kind,4),(epoch,8),(seq,8)]++rest)++(aJ 0 (100-(rest.map (·.2)).sum)++aJ (cV (kC kind epoch seq (fq rest))).toNat 4):=by
 have a:124-(ll kind epoch seq++fq rest).length=100-(rest.map (·.2)).sum:=by
  rw[c9,gl,fi];omega
 unfold eN cE;rw[<-lx];congr 1;unfold kC iI;rw[a,DT,uu];simp only[ll,JI,fq,Oi,List.flatMap_nil,mn,lx]
theorem fm(kind epoch seq:Nat)(rest:List (Nat×Nat))(h:(rest.map (·.2)).sum<=100):(eN kind epoch seq rest).length=128:=
 nN (nO (by rw[fi];exact h))
theorem Hm(b:List UInt8):(cV b).toNat<256^4:=(cV b).isLt
theorem tQ(kind epoch seq:Nat)(rest:List (Nat×Nat))(h:(rest.map (·.2)).sum<=100)(k:Nat)(p:Nat×Nat)(a:([(1279938643,4),(kind,4),(epoch,8),(seq,8)]++rest)[k]?=some p)(b:p.1<256^p.2):
  aO (eN kind epoch seq rest) (ov ([(1279938643,4),(kind,4),(epoch,8),(seq,8)]++rest) k) p.2=p.1:=by
 rw[GC _ _ _ _ h];exact q4 _ k p _ a b
theorem ph(kind:UInt8)(i:1<=kind.toNat/\kind.toNat<=3)(epoch seq:Nat)(rest:List (Nat×Nat))(h:(rest.map (·.2)).sum<=100):cX (eN kind.toNat epoch seq rest) kind=0:=by
 have e:=fm kind.toNat epoch seq rest h;have d:(kC kind.toNat epoch seq (fq rest)).length=124:=nO (by rw[fi];exact h);have a:∃r,eN kind.toNat epoch seq rest=bQ++(kind::r):=by
  unfold eN cE kC iI ll;rw[jU 3 kind.toNat];refine⟨_,by rw[lx,lx,lx,lx,lx,QD];congr 2;simp⟩
 have b:lZ (eN kind.toNat epoch seq rest)=kind:=by
  obtain⟨r,f⟩:=a;have g:(eN kind.toNat epoch seq rest).getD 4 0=kind:=by rw[f];rfl
  unfold lZ;rw[g,lam ⟨e,by rw[f];rfl,i.2⟩]
 have c:(eN kind.toNat epoch seq rest).take 124=kC kind.toNat epoch seq (fq rest):=by unfold eN cE;rw[DL d]
 have j:aO (eN kind.toNat epoch seq rest) 124 4=(cV (kC kind.toNat epoch seq (fq rest))).toNat:=by
  unfold eN cE;have:=xC (kC kind.toNat epoch seq (fq rest)) (aJ (cV (kC kind.toNat epoch seq (fq rest))).toNat 4) 0 4;rw[d]at this;rw[this];have:=xB (cV (kC kind.toNat epoch seq (fq rest))).toNat 4 [] (Hm _);rwa [mn]at this
 unfold cX;rw[aE (by simp[e]),b,aE (by simp),c,j,aE (by simp)]
theorem rU(h:aM):(h.rest.map (·.2)).sum<=100:=by simp[aM.rest]
theorem vr(h:bZ):(h.rest.map (·.2)).sum<=100:=by simp[bZ.rest]
theorem nu(h:bJ):(h.rest.map (·.2)).sum<=100:=by simp[bJ.rest]
theorem Ju(h:aM)(u:h.aX)(v:h.sum<4294967296):aM.parse (eN 1 h.epoch h.seq h.rest)=h:=by
 obtain⟨⟨g1,g2,g3⟩,⟨g4,g5⟩,⟨g6,g7⟩,⟨g8,g9⟩,g10,g11⟩:=u;have n:=λk p=>tQ 1 h.epoch h.seq h.rest (rU h) k p;have j:=n 2 _ rfl (show h.epoch<256^8 by omega);have l:=n 3 _ rfl (show h.seq<256^8 by omega);have m:=n 4 _ rfl (show h.index.toNat<256^4 by omega);have o:=n 5 _ rfl (show h.count.toNat<256^4 by omega);have q:=n 6 _ rfl (show h.av.toNat<256^4 by omega);have r:=n 7 _ rfl (show h.row.toNat<256^4 by omega);have s:=n 8 _ rfl (show mB h.cw<256^4 by unfold mB;split<;>omega);have t:=n 9 _ rfl (show h.sum<256^4 by omega);change aO _ 8 8=_ at j;change aO _ 16 8=_ at l;change aO _ 24 4=_ at m;change aO _ 28 4=_ at o;change aO _ 32 4=_ at q;change aO _ 36 4=_ at r;change aO _ 40 4=_ at s;change aO _ 44 4=_ at t;unfold aM.parse;rw[j,l,m,o,q,r,s,t];obtain⟨a,b,c,d,e,f,g,i⟩:=h;simp only[aM.mk.injEq,true_and,and_true]at*;refine⟨by omega,by omega,by omega,by omega,?_⟩;cases g<;>simp[mB]
theorem IU(h:bZ)(j:h.aX)(l:h.sum<4294967296):bZ.parse (eN 2 h.epoch h.seq h.rest)=h:=by
 obtain⟨⟨g1,g2,g3⟩,g4,g5⟩:=j;have n:=λk p=>tQ 2 h.epoch h.seq h.rest (vr h) k p;have e:=n 2 _ rfl (show h.epoch<256^8 by omega);have f:=n 3 _ rfl (show h.seq<256^8 by omega);have g:=n 4 _ rfl (show h.count.toNat<256^4 by omega);have i:=n 5 _ rfl (show h.sum<256^4 by omega);change aO _ 8 8=_ at e;change aO _ 16 8=_ at f;change aO _ 24 4=_ at g;change aO _ 28 4=_ at i;unfold bZ.parse;rw[e,f,g,i];obtain⟨a,b,c,d⟩:=h;simp only[bZ.mk.injEq,true_and,and_true]at*;omega
theorem IQ(h:bJ)(g:h.aX):bJ.parse (eN 3 h.epoch h.seq h.rest)=h:=by
 obtain⟨⟨g1,g2,g3⟩,g4,g5⟩:=g;have n:=λk p=>tQ 3 h.epoch h.seq h.rest (nu h) k p;have d:=n 2 _ rfl (show h.epoch<256^8 by omega);have e:=n 3 _ rfl (show h.seq<256^8 by omega);have f:=n 4 _ rfl (show h.tail.toNat<256^4 by omega);change aO _ 8 8=_ at d;change aO _ 16 8=_ at e;change aO _ 24 4=_ at f;unfold bJ.parse;rw[d,e,f];obtain⟨a,b,c⟩:=h;simp only[bJ.mk.injEq,true_and,and_true]at*;omega
theorem Mm(h:aM)(a:h.aX)(b:h.sum<4294967296):aM.dec h.enc.2=(0,h):=by
 have e:h.enc.2=eN 1 h.epoch h.seq h.rest:=by unfold aM.enc;rw[lam a]
 unfold aM.dec;rw[e,aE (by rw[show eN 1 h.epoch h.seq h.rest=eN (1:UInt8).toNat h.epoch h.seq h.rest from rfl,ph 1 (by decide) _ _ _ (rU h)];simp),Ju h a b,lam ⟨a,e⟩]
theorem LL(h:bZ)(a:h.aX)(b:h.sum<4294967296):bZ.dec h.enc.2=(0,h):=by
 have e:h.enc.2=eN 2 h.epoch h.seq h.rest:=by unfold bZ.enc;rw[lam a]
 unfold bZ.dec;rw[e,aE (by rw[show eN 2 h.epoch h.seq h.rest=eN (2:UInt8).toNat h.epoch h.seq h.rest from rfl,ph 2 (by decide) _ _ _ (vr h)];simp),IU h a b,lam ⟨a,e⟩]
theorem LC(h:bJ)(a:h.aX):bJ.dec h.enc.2=(0,h):=by
 have e:h.enc.2=eN 3 h.epoch h.seq h.rest:=by unfold bJ.enc;rw[lam a]
 unfold bJ.dec;rw[e,aE (by rw[show eN 3 h.epoch h.seq h.rest=eN (3:UInt8).toNat h.epoch h.seq h.rest from rfl,ph 3 (by decide) _ _ _ (nu h)];simp),IQ h a,lam ⟨a,e⟩]
end Go.Proofs.YtldolcbbmnmjoaaGreat
namespace Go.Sl
open Go Go.RowKit
section
variable{W:World}{P:Program}{n:Nat}{H:List ab}{f:Fr}{dst:Option Tmp}{ty_:TypeId}{pos:String}{after:Array Edge}{guard:Option (Nat×Bool)}
def N0(c:BitVec 32):Value:= .int .u32 (c.toNat:Int)
theorem af.wU{T:aI}{x y:Operand}{t e:TypeId}{k:IntKind}{b o m j:Nat}(g:T.ok P=true)(l:P.underlying t=some (.array m e))(p:aD f x=some (.pointer (some ⟨b,o,none⟩)))(q:aD f y=some (.int k (j:Int)))
  (i:assoc T.leaf e=some ())(r:j<m):af W P n H f {dst,op:= .indexAddr t x y,type:=ty_,pos,after,guard} (.pointer (some ⟨b,o+j,none⟩)):=by
 unfold af;intro s w a _;have c:(0:Int)<=j/\(j:Int)<m:=⟨by omega,by omega⟩;have d:(⟨b,o,none⟩:Addr).add j=⟨b,o+j,none⟩:=by unfold Addr.add;split<;>simp_all
 simp[execOp,a.eval p,a.eval q,Instr.indexAt,Instr.sureAddr,asIntOf,run_underlying l,(T.l3 g i).2,c,d];intro h;omega
theorem ofInt32(c:BitVec 32):BitVec.ofInt 32 (c.toNat:Int)=c:=by
 rw[BitVec.ofInt_natCast,BitVec.ofNat_toNat,BitVec.setWidth_eq]
theorem vQ(c:BitVec 32):IntKind.u32.wrap (c.toNat:Int)=c.toNat:=by
 have:=c.isLt;rw[IntKind.wrap_u32];omega
theorem af.QH{x:Operand}{s:TypeId}{c:BitVec 32}(k:aD f x=some (N0 c)):af W P n H f {dst,op:= .unOp .xor s x,type:=ty_,pos,after,guard} (N0 (~~~c)):=by
 unfold af;intro l w h _;have e:(4294967295#32^^^c)= ~~~c:=by
  apply BitVec.eq_of_getLsbD_eq;intro i a;have g:∀j:Fin 32,(4294967295#32).getLsbD j.1=true:=by decide
  rw[BitVec.getLsbD_xor,BitVec.getLsbD_not,g ⟨i,a⟩];simp[a]
 have b:IntKind.u32.wrap ((BitVec.ofInt 32 4294967295^^^BitVec.ofInt 32 (c.toNat:Int)).toNat:Int)=((~~~c).toNat:Int):=by
  rw[ofInt32,show BitVec.ofInt 32 4294967295=4294967295#32 from rfl,e,vQ]
 unfold execOp;simp only[h.eval k,N0];have d:(Op.unary .xor (.int .u32 (c.toNat:Int))).run P w= .ok (.int .u32 ((~~~c).toNat:Int)) w:=by
  rw[<-b];rfl
 simp only[Sem.run_bind,d,Result.andThen_ok,Sem.run_pure]
end
end Go.Sl
namespace Go.Proofs.YtldolcbbmnmjoaaGreat
open Go.RowKit Go.Sl
attribute [local irreducible] Own
theorem Ij(a b:BitVec 32):IntKind.u32.wrap ((BitVec.ofInt IntKind.u32.bits (a.toNat:Int)^^^BitVec.ofInt IntKind.u32.bits (b.toNat:Int)).toNat:Int)=((a^^^b).toNat:Int):=by
 show IntKind.u32.wrap ((BitVec.ofInt 32 _^^^BitVec.ofInt 32 _).toNat:Int)=_;rw[ofInt32,ofInt32,vQ]
theorem Qq(a b:BitVec 32):IntKind.u32.wrap ((BitVec.ofInt IntKind.u32.bits (a.toNat:Int)&&& BitVec.ofInt IntKind.u32.bits (b.toNat:Int)).toNat:Int)=((a&&& b).toNat:Int):=by
 show IntKind.u32.wrap ((BitVec.ofInt 32 _&&& BitVec.ofInt 32 _).toNat:Int)=_;rw[ofInt32,ofInt32,vQ]
theorem QN(a:BitVec 32)(k:Nat):((a.toNat/2^k:Nat):Int)=((a>>>k).toNat:Int):=by
 rw[BitVec.toNat_ushiftRight,Nat.shiftRight_eq_div_pow]
theorem Ra(c:UInt8):(c.toNat:Int)=((BitVec.ofNat 32 c.toNat).toNat:Int):=by
 rw[BitVec.toNat_ofNat,nE (by have:=c.toNat_lt;omega)]
theorem IY(n:BitVec 32)(l:List UInt8)(c:UInt8):rP n (l++[c])=LQ (rP n l) c:=by simp[rP]
def kO(i:Nat):List Value:=(List.range 16).map λj=>if j<i then .int .u32 ((iz 4 (BitVec.ofNat 32 j)).toNat:Int)else .int .u32 0
theorem iN(i:Nat):(kO i).length=16:=by simp[kO]
theorem EO(i:Nat):∀u∈kO i,u.oneCell'=true:=by
 intro u a;obtain⟨j,-,rfl⟩:=fG.1 a;split<;>rfl
theorem NR(i:Nat)(h:i<16):(kO i).set i (.int .u32 ((iz 4 (BitVec.ofNat 32 i)).toNat:Int))=kO (i+1):=by
 apply E6 (by simp[kO]);intro j b a;have c:j<16:=by rw[iN]at a;exact a
 rw[List.getElem_set];simp only[kO,Jz,List.getElem_range];by_cases e:i=j
 · subst e;rw[lam rfl,lam zO]
 ·
  rw[aE e];by_cases q:j<i
  · rw[lam q,lam zO]
  · rw[aE q,aE zO]
theorem NQ(j:Nat)(h:j<16):(kO 16)[j]?=some (.int .u32 ((iz 4 (BitVec.ofNat 32 j)).toNat:Int)):=by simp[kO,h]
theorem Tq(m:BitVec 32):IntKind.u32.wrap (2197175160* ((m&&& 1#32).toNat:Int))=((if m.getLsbD 0 then Bj else 0#32).toNat:Int):=by
 have e:m&&& 1#32=if m.getLsbD 0 then 1#32 else 0#32:=by
  apply BitVec.eq_of_getLsbD_eq;intro j a;rw[BitVec.getLsbD_and];cases j with
  |zero=>cases m.getLsbD 0<;>simp
  |succ j=>cases m.getLsbD 0<;>simp
 rw[e];cases m.getLsbD 0
 · rw[IntKind.wrap_u32];rfl
 · rw[IntKind.wrap_u32];rfl
theorem Pe{W:World}{R:List ab}:az W Tryz.prog 284 [] R (.agg (kO 16).toArray) R:=by
 refine ze Tryz.func284 Tryz.ntmps284 ?_;refine zq ?_;refine ay.alloc (z:= .agg (kO 0).toArray) (cs:=kO 0) (λw=>by simp;rfl) rfl rfl ?_;intro nb;refine w ?_;refine VC.loop (α:=Nat) (λi=>i<=16) (λi=>Row nb 367 (kO i)::R) (λi=>[(0,ip nb),(3,ii i)]) (λi=>16-i) rfl 0 (c7 _) ae.refl zB ?_;intro i q;refine w ?_;refine zk ?_ ?_<;>intro c
 ·
  have d:i<16:=by have:=cI c;omega
  have l:IntKind.u32.wrap (i:Int)=((BitVec.ofNat 32 i).toNat:Int):=by
   rw[IntKind.wrap_u32,BitVec.toNat_ofNat];omega
  refine w ?_;refine VC.re 2 (.int .u32 ((BitVec.ofNat 32 i).toNat:Int)) rfl (by rw[l]) ?_;refine VC.loop (α:=Nat) (λk=>k<=4) (λ_=>Row nb 367 (kO i)::R) (λk=>[(0,ip nb),(1,ii i),(2,.int .u32 ((iz k (BitVec.ofNat 32 i)).toNat:Int)),(3,ii i),(8,ii k)]) (λk=>4-k) rfl 0 (c7 _) ae.refl zB ?_;intro k r;refine w ?_;refine zk ?_ ?_<;>intro c
  ·
   have p:k<4:=by have:=cI c;omega
   have h:iz (k+1) (BitVec.ofNat 32 i)=fz (iz k (BitVec.ofNat 32 i)):=by rw[EL];rfl
   generalize iz k (BitVec.ofNat 32 i)=m at*;have g:(((m.toNat/2^(1:Int).toNat:Nat)):Int)=((m>>>1).toNat:Int):=QN m 1;have b:IntKind.u32.wrap ((BitVec.ofInt IntKind.u32.bits (m.toNat:Int)&&& BitVec.ofInt IntKind.u32.bits 1).toNat:Int)=((m&&& 1#32).toNat:Int):=Qq m 1#32;refine w ?_;refine VE.round (k+1) zO zO ⟨rfl,rfl,b7 rfl ?_,rfl,b7 rfl (by congr 1),trivial⟩ ae.refl;rw[h,b,Tq,g];exact JB (Value.int .u32) (Ij (m>>>1) _)
  ·
   have a:k=4:=by have:=dx c;omega
   subst a;refine w ?_;refine VO.pure rfl rfl (af.wU ah Tryz.underlying367 rfl rfl rfl d) rfl ?_;refine zq ?_;refine ay.st (cs:=kO i) ah rfl rfl rfl rfl .head (by rw[iN];omega) ?_;rw[show(kO i).set (0+i) (.int .u32 ((iz 4 (BitVec.ofNat 32 i)).toNat:Int))=kO (i+1)by rw[PA];exact NR i d];refine w ?_;exact VE.round (i+1) zO zO ⟨rfl,b7 rfl (by congr 1),trivial⟩ ae.refl
 ·
  have a:i=16:=by have:=dx c;omega
  subst a;have j:List.take 16 (List.drop 0 (kO 16))=kO 16:=by rw[KP,qy (by rw[iN];exact eI _)]
  have e:=iN 16;have o:=EO 16;generalize kO 16=T at*;refine w ?_;refine VO.pure rfl rfl (af.Tn ah rfl rfl (.head _) j e) rfl ?_;refine zq ?_;refine ay.gL (vs:=T) ah rfl rfl rfl e o .head (by rw[e];decide) ?_;rw[show T.take 0++T++T.drop (0+16)=T by rw[List.drop_of_length_le zO];simp];refine w ?_;exact VE.results1 (.inl rfl) () rfl (aL.agg (vs:=T) ah rfl rfl (.head _) j e) trivial rfl (ae.drop ae.refl)
theorem Lf(m:BitVec 32):((m&&& 15#32).toNat:Nat)<16:=by
 rw[BitVec.toNat_and];exact Nat.lt_succ_of_le Nat.and_le_right
theorem HN{W:World}{R:List ab}{ao:Option Addr}{cap:Nat}{l:List UInt8}(c:BitVec 32)(x:aV W R 1 ao l.length (bytes l))(C:l.length<=1099511627776):
  az W Tryz.prog 240 [.int .u32 (c.toNat:Int),.slice ao l.length cap] R (.int .u32 ((sT c l).toNat:Int)) R:=by
 (refine aq.enter Tryz.func240 Tryz.ntmps240 rfl rfl ?_);refine zt (s:=Pe) (h:=?_);intro _ _;refine zq ?_;refine ay.alloc (z:= .agg (kO 0).toArray) (cs:=kO 0) (λw=>by simp;rfl) rfl rfl ?_;intro nb;have g:=iN 16;have y:=EO 16;have e:=NQ;have t:=iN 0;generalize kO 16=T at*;generalize kO 0=u at*;refine zq ?_;refine ay.gL (vs:=T) ah rfl rfl rfl g y .head (by rw[t];decide) ?_;rw[show u.take 0++T++u.drop (0+16)=T by rw[List.drop_of_length_le zO];simp];refine w ?_;refine VO.pure rfl rfl (af.QH (c:=c) rfl) rfl ?_;unfold N0;refine w ?_;refine VC.loop (α:=Nat) (λi=>i<=l.length) (λ_=>Row nb 367 T::R) (λi=>[(5,ip nb),(6,.int .u32 ((rP (~~~c) (l.take i)).toNat:Int)),(12,.slice ao l.length cap),(13,ii l.length),(14,ii i)]) (λi=>l.length-i) rfl 0 (c7 _) ae.refl zB ?_;intro i B;refine w ?_;refine zk ?_ ?_<;>intro v
 ·
  have j:i<l.length:=by have:=cI v;omega
  obtain⟨a,rfl⟩:∃a,ao=some a:=by cases ao with|none=>have:=x.nil rfl;omega|some a=>exact⟨a,rfl⟩
  have o:rP (~~~c) (l.take (i+1))=LQ (rP (~~~c) (l.take i)) l[i]:=by rw[nZ j,IY]
  rw[Bi]at o;have q:=x.aR (ae.drop (p:=Row nb 367 T) ae.refl:ae W (Row nb 367 T::R) R);generalize rP (~~~c) (l.take i)=F at*;refine w ?_;have A:Value.int .u32 (IntKind.u32.wrap ((BitVec.ofInt IntKind.u32.bits (F.toNat:Int)^^^BitVec.ofInt IntKind.u32.bits (IntKind.u32.wrap (l[i].toNat:Int))).toNat:Int))= .int .u32 ((F^^^BitVec.ofNat 32 l[i].toNat).toNat:Int):=by
   rw[Ra,vQ];exact JB (Value.int .u32) (Ij _ _)
  refine VO.pure rfl rfl (RE ah rfl rfl q j) rfl ?_;iterate 9 (refine zv ?_)
  refine VO.re 21 _ rfl A ?_;generalize F^^^BitVec.ofNat 32 l[i].toNat=G at*;have k:∀m:BitVec 32,(((m.toNat/2^(4:Int).toNat:Nat)):Int)=((m>>>4).toNat:Int):=λm=>QN m 4;have b:∀m:BitVec 32,IntKind.u32.wrap ((BitVec.ofInt IntKind.u32.bits (m.toNat:Int)&&& BitVec.ofInt IntKind.u32.bits 15).toNat:Int)=((m&&& 15#32).toNat:Int):=λm=>Qq m 15#32;have d:∀m:BitVec 32,T[0+(m&&& 15#32).toNat]?=some (.int .u32 ((iz 4 (m&&& 15#32)).toNat:Int)):=λm=>by
   rw[show 0+(m&&& 15#32).toNat=(m&&& 15#32).toNat by omega,e _ (Lf m),BitVec.ofNat_toNat,BitVec.setWidth_eq]
  refine w ?_;refine VO.re 25 (.int .u32 ((G&&& 15#32).toNat:Int)) rfl (by rw[b]) ?_;refine VO.pure rfl rfl (af.wU ah Tryz.underlying367 rfl rfl rfl (Lf G)) rfl ?_;refine VO.pure rfl rfl (af.ld ah rfl rfl (.head _) (d G)) rfl ?_;refine zv ?_;refine VO.re 28 (.int .u32 (((G>>>4)^^^iz 4 (G&&& 15#32)).toNat:Int)) rfl (by rw[k];exact JB (Value.int .u32) (Ij _ _)) ?_;generalize(G>>>4)^^^iz 4 (G&&& 15#32)=M at*;refine w ?_;refine VO.re 32 (.int .u32 ((M&&& 15#32).toNat:Int)) rfl (by rw[b]) ?_;refine VO.pure rfl rfl (af.wU ah Tryz.underlying367 rfl rfl rfl (Lf M)) rfl ?_;refine VO.pure rfl rfl (af.ld ah rfl rfl (.head _) (d M)) rfl ?_;refine zv ?_;refine VO.re 35 (.int .u32 (((M>>>4)^^^iz 4 (M&&& 15#32)).toNat:Int)) rfl (by rw[k];exact JB (Value.int .u32) (Ij _ _)) ?_;refine w ?_;refine VE.round (i+1) zO zO ⟨rfl,b7 rfl (by rw[o]),rfl,rfl,b7 rfl (by congr 1),trivial⟩ ae.refl
 ·
  have r:i=l.length:=by have:=dx v;omega
  subst r;rw[qy (eI _)];refine w ?_;refine VO.pure rfl rfl (af.QH (c:=rP (~~~c) l) rfl) rfl ?_;unfold N0;refine w ?_;refine VE.ax rfl ?_ ?_
  · rfl
  · exact ae.drop ae.refl
theorem rq{W:World}{R:List ab}{ao:Option Addr}{cap:Nat}{l:List UInt8}(b:aV W R 1 ao l.length (bytes l))(a:l.length<=1099511627776):
  az W Tryz.prog 154 [.slice ao l.length cap] R (.int .u32 ((cV l).toNat:Int)) R:=by
 (refine aq.enter Tryz.func154 Tryz.ntmps154 rfl rfl ?_);refine zt (s:=HN 0#32 b a) (h:=?_);intro _ _;refine w ?_;refine VE.ax rfl ?_ ?_
 · rfl
 · exact ae.refl
end Go.Proofs.YtldolcbbmnmjoaaGreat
namespace Go.Proofs.YtldolcbbmnmjoaaGreat
open Go.RowKit Go.Sl
attribute [local irreducible] Own
theorem Hl(a b:Nat):dJ a b↔a<=4611686018427387904/\1<=b/\b<=4611686018427387904:=Iff.rfl
theorem sS{W:World}{R:List ab}(a b:Nat):
  az W Tryz.prog 198 [i8 a,i8 b] R (.bool (decide (dJ a b))) R:=by
 refine ze Tryz.func198 Tryz.ntmps198 ?_
 iterate 2
  refine zg ?_ ?_<;>intro c
  rotate_left
  ·
   replace c:=dx c;refine w ?_;refine VE.ax rfl ?_ ?_
   · rw[gx (λh=>by have:=(Hl a b).1 h;omega)]
   · exact ae.refl
  replace c:=cI c
  refine w ?_
 refine VE.ax rfl ?_ ?_
 · congr 1;rw[cN,Hl];omega
 · exact ae.refl
theorem Ab{W:World}{R:List ab}(n a b:Int):
  az W Tryz.prog 199 [ii n,ii a,ii b] R (.bool (decide (a<=n/\n<=b))) R:=by
 refine ze Tryz.func199 Tryz.ntmps199 ?_;refine zg ?_ ?_<;>intro c
 ·
  have h:a<=n:=cI c;refine w ?_;refine VE.ax rfl ?_ ?_
  · simp[h]
  · exact ae.refl
 ·
  have h:¬a<=n:=dx c;refine w ?_;refine VE.ax rfl ?_ ?_
  · simp[h]
  · exact ae.refl
theorem wm(l:List UInt8)(k:Nat):(bytes l).take (k*1)=bytes (l.take k):=by rw[Nat.mul_one];simp[bytes]
theorem Fu(l:List UInt8)(k:Nat):(bytes l).drop (k*1)=bytes (l.drop k):=by rw[Nat.mul_one];simp[bytes]
theorem jf{W:World}{R:List ab}{ao:Option Addr}{l:List UInt8}(b:aV W R 1 ao l.length (bytes l))(k:Nat)(a:k<=l.length):aV W R 1 ao k (bytes (l.take k)):=by
 have:=b.take a;rwa [wm]at this
theorem xN{W:World}{R:List ab}{ao:Option Addr}{cap:Nat}{l:List UInt8}(f:aV W R 1 ao l.length (bytes l))(a b:Nat)(c:a<=b)(d:b<=l.length)(e:l.length<=cap):aV W R 1 (jO ao cap a 1) (b-a) (bytes ((l.drop a).take (b-a))):=by
 have:=f.sub c d e;rwa [Fu,wm]at this
theorem wY{b:List UInt8}(h:b.length=128->b.take 4=bQ->3<(b.getD 4 0).toNat):lZ b=0:=by
 unfold lZ;rw[aE];rintro⟨a,c,d⟩;have:=h a c;omega
theorem Jx{b:List UInt8}(a:b.length=128)(c:b.take 4=bQ)(d:(b.getD 4 0).toNat<=3):lZ b=b.getD 4 0:=by
 unfold lZ;rw[lam ⟨a,c,d⟩]
theorem Mc{b:List UInt8}(h:4<b.length):b.getD 4 0=b[4]:=by simp[List.getD,h]
theorem HA{W:World}{R:List ab}{ao:Option Addr}{cap:Nat}{l:List UInt8}(f:aV W R 1 ao l.length (bytes l))(i:l.length<=cap):
  az W Tryz.prog 300 [.slice ao l.length cap] R (ib ((lZ l).toNat:Int)) R:=by
 refine ze Tryz.func300 Tryz.ntmps300 ?_;refine zg ?_ ?_<;>intro c
 ·
  have c:l.length≠128:=by have:=c;simp at this;omega
  refine w ?_;refine VE.ax rfl ?_ ?_
  · rw[wY (λh=>lcs h c)];rfl
  · exact ae.refl
 have d:l.length=128:=by have:=c;simp at this;omega
 obtain⟨a,rfl⟩:∃a,ao=some a:=by cases ao with|none=>have:=f.nil rfl;omega|some a=>exact⟨a,rfl⟩
 have hb1:=f;refine w ?_;refine VO.pure rfl rfl (af.toStr (l:=l.take 4) ah rfl rfl rfl rfl (jf f 4 zO) rfl) rfl ?_;refine VO.pure rfl rfl (af.EN (b:=bQ) ah rfl rfl rfl rfl) rfl ?_;refine w ?_;refine zg ?_ ?_<;>intro c
 ·
  have c:l.take 4≠bQ:=by have:=c;simp at this;exact this
  refine w ?_;refine VE.ax rfl ?_ ?_
  · rw[wY (λ_ h=>lcs h c)];rfl
  · exact ae.refl
 have j:l.take 4=bQ:=by have:=c;simp at this;exact this
 refine w ?_;refine zk ?_ ?_<;>intro g
 ·
  have e:3<(l[4]).toNat:=by have:=cI g;omega
  refine w ?_;refine VE.ax rfl ?_ ?_
  · rw[wY (λ_ _=>by rw[Mc zO];exact e)];rfl
  · exact ae.refl
 ·
  have e:(l[4]).toNat<=3:=by have:=dx g;omega
  refine w ?_;refine VE.ax rfl ?_ ?_
  · rw[Jx d j (by rw[Mc zO];exact e),Mc zO]
  · exact ae.refl
structure aM.fit(h:aM):Prop where
  epoch:h.epoch<2^64
  seq:h.seq<2^64
  index:-9223372036854775808<=h.index/\h.index<=9223372036854775807
  count:-9223372036854775808<=h.count/\h.count<=9223372036854775807
  av:-9223372036854775808<=h.av/\h.av<=9223372036854775807
  row:-9223372036854775808<=h.row/\h.row<=9223372036854775807
  sum:h.sum<4294967296
structure bZ.fit(h:bZ):Prop where
  epoch:h.epoch<2^64
  seq:h.seq<2^64
  count:-9223372036854775808<=h.count/\h.count<=9223372036854775807
  sum:h.sum<4294967296
structure bJ.fit(h:bJ):Prop where
  epoch:h.epoch<2^64
  seq:h.seq<2^64
  tail:-9223372036854775808<=h.tail/\h.tail<=9223372036854775807
theorem Pp(h:aM):h.aX↔(h.epoch<=4611686018427387904/\1<=h.seq/\h.seq<=4611686018427387904)/\1<=h.count/\h.count<=1023/\0<=h.index/\h.index<=h.count-1/\0<=h.av/\h.av<=15/\0<=h.row/\h.row<=4095:=by
 unfold aM.aX dJ;constructor
 · rintro⟨a,⟨b,c⟩,⟨d,e⟩,⟨f,g⟩,i,j⟩;exact⟨a,b,c,d,e,f,g,i,j⟩
 · rintro⟨a,b,c,d,e,f,g,i,j⟩;exact⟨a,⟨b,c⟩,⟨d,e⟩,⟨f,g⟩,i,j⟩
theorem OT(h:bZ):h.aX↔(h.epoch<=4611686018427387904/\1<=h.seq/\h.seq<=4611686018427387904)/\1<=h.count/\h.count<=1023:=Iff.rfl
theorem vi(h:bJ):h.aX↔(h.epoch<=4611686018427387904/\1<=h.seq/\h.seq<=4611686018427387904)/\0<=h.tail/\h.tail<=2047:=Iff.rfl
theorem rT{h:aM}(g:¬h.aX):h.enc=(80,[]):=aE g
theorem Hj{h:bZ}(g:¬h.aX):h.enc=(80,[]):=aE g
theorem vh{h:bJ}(g:¬h.aX):h.enc=(80,[]):=aE g
theorem s7{h:aM}(g:h.aX):h.enc=(0,eN 1 h.epoch h.seq h.rest):=lam g
theorem wy{h:bZ}(g:h.aX):h.enc=(0,eN 2 h.epoch h.seq h.rest):=lam g
theorem qL{h:bJ}(g:h.aX):h.enc=(0,eN 3 h.epoch h.seq h.rest):=lam g
theorem BA{v:Nat}(h:v<4294967296):IntKind.i64.wrap (v:Int)=v:=IntWalk.i64_in _ ⟨by omega,by omega⟩
theorem vP{v:Nat}(h:v<4294967296):IntKind.u32.wrap (v:Int)=v:=by rw[AU,nE h]
theorem He(b:Bool):mB b<2^64:=by cases b<;>decide
abbrev b8(x:Option Addr×Nat)(l:List UInt8):ab:=Own 5 1 (.slice x.1 l.length x.2) l.length (bytes l)
theorem gh(b:List UInt8)(a w:Nat):aO b a w<256^w:=by
 unfold aO;refine w8 (r4 _) (Nat.pow_le_pow_right (by decide) ?_);rw[j1];exact Nat.min_le_left _ _
theorem LM{b:List UInt8}(a:cX b 2=0):bZ.dec b=if(bZ.parse b).aX/\(bZ.parse b).enc.2=b then(0,bZ.parse b)else(80,oe):=by
 unfold bZ.dec;rw[aE (by rw[a];simp)]
theorem LD{b:List UInt8}(a:cX b 3=0):bJ.dec b=if(bJ.parse b).aX/\(bJ.parse b).enc.2=b then(0,bJ.parse b)else(80,og):=by
 unfold bJ.dec;rw[aE (by rw[a];simp)]
theorem Mn{b:List UInt8}(a:cX b 1≠0):aM.dec b=(cX b 1,j6):=by unfold aM.dec;rw[lam a]
theorem LN{b:List UInt8}(a:cX b 2≠0):bZ.dec b=(cX b 2,oe):=by unfold bZ.dec;rw[lam a]
theorem LF{b:List UInt8}(a:cX b 3≠0):bJ.dec b=(cX b 3,og):=by unfold bJ.dec;rw[lam a]
theorem By(h:aM):∀u∈h.cells,u.oneCell'=true:=by
 intro u a;simp only[aM.cells,List.mem_cons,TW,or_false]at a;rcases a with h|h|h|h|h|h|h|h<;>subst h<;>rfl
theorem vq(h:bZ):∀u∈h.cells,u.oneCell'=true:=by
 intro u a;simp only[bZ.cells,List.mem_cons,TW,or_false]at a;rcases a with h|h|h|h<;>subst h<;>rfl
theorem vm(h:bJ):∀u∈h.cells,u.oneCell'=true:=by
 intro u a;simp only[bJ.cells,List.mem_cons,TW,or_false]at a;rcases a with h|h|h<;>subst h<;>rfl
theorem Po(b:List UInt8):(aM.parse b).fit:=by
 have h:=gh b;refine⟨h 8 8,h 16 8,?_,?_,?_,?_,h 44 4⟩
 · have:=h 24 4;simp only[aM.parse];omega
 · have:=h 28 4;simp only[aM.parse];omega
 · have:=h 32 4;simp only[aM.parse];omega
 · have:=h 36 4;simp only[aM.parse];omega
theorem Hk(b:List UInt8):(bZ.parse b).fit:=by
 have h:=gh b;refine⟨h 8 8,h 16 8,?_,h 28 4⟩;have:=h 24 4;simp only[bZ.parse];omega
theorem Hi(b:List UInt8):(bJ.parse b).fit:=by
 have h:=gh b;refine⟨h 8 8,h 16 8,?_⟩;have:=h 24 4;simp only[bJ.parse];omega
theorem pT{b:List UInt8}{k:UInt8}(h:cX b k=0):b.length=128:=by
 unfold cX at h;split at h
 · cases h
 · omega
theorem Ho{h:aM}:h.enc.1≠0↔¬h.aX:=by unfold aM.enc;split<;>simp_all
theorem Df{h:bZ}:h.enc.1≠0↔¬h.aX:=by unfold bZ.enc;split<;>simp_all
theorem Dg{h:bJ}:h.enc.1≠0↔¬h.aX:=by unfold bJ.enc;split<;>simp_all
theorem BR{W:World}{H:List ab}{x:Option Addr×Nat}{l:List UInt8}(a:x.1=none->l.length=0)(m:b8 x l∈H):aV W H 1 x.1 l.length (bytes l):=aV.own (aQ _) m (by simp) a
end Go.Proofs.YtldolcbbmnmjoaaGreat
namespace Go.Proofs.YtldolcbbmnmjoaaGreat
open Go.RowKit Go.Sl
theorem MH{W:World}{R:List ab}(n:Nat)(a:n<2^32):
  az W Tryz.prog 146 [i8 1,i8 n] R (.tuple #[i8 0,i8 n]) R:=by
 refine ze Tryz.func146 Tryz.ntmps146 ?_;refine VE.ax rfl ?_ ae.refl;have d:(BitVec.ofInt IntKind.u64.bits (n:Int)&&& BitVec.ofInt IntKind.u64.bits 4294967295).toNat=n:=by
  have b:(BitVec.ofInt IntKind.u64.bits (n:Int)).toNat=n:=by simp[IntKind.bits];omega
  have c:(BitVec.ofInt IntKind.u64.bits (4294967295:Int)).toNat=2^32-1:=by decide
  rw[BitVec.toNat_and,b,c,Nat.and_two_pow_sub_one_eq_mod,nE a]
 have e:n/2^Int.toNat 32=0:=Nat.div_eq_of_lt a;have f:(BitVec.ofInt IntKind.u64.bits 1&&& BitVec.ofInt IntKind.u64.bits 4294967295).toNat=1:=by decide
 have g:1/2^Int.toNat 32=0:=by decide
 have h:((2:Int)^IntKind.u64.bits).natAbs=2^64:=by decide
 have i:n%2^64=n:=nE zO;have j:1%2^64=1:=by decide
 have k:IntKind.u64.wrap 0=0:=by decide
 have l:(BitVec.ofInt IntKind.u64.bits 0&&& BitVec.ofInt IntKind.u64.bits 4294967295).toNat=0:=by decide
 simp only[d,e,f,g,h,i,j,Nat.one_mul,Nat.zero_mul,Nat.mul_zero,PA,BH,Nat.zero_mod,Nat.zero_div,Int.natCast_zero,Int.zero_mul,Int.mul_zero,Int.zero_add,Int.add_zero,k,l,Int.one_mul,dB (show n<2^64 by omega)]
theorem F8{W:World}{R:List ab}(n:Nat)(a:n<2^32):
  az W Tryz.prog 84 [i8 1,i8 n] R (.tuple #[i8 0,i8 n]) R:=by
 (refine aq.enter Tryz.func84 Tryz.ntmps84 rfl rfl ?_);refine zr (s:=MH n a) (h:=?_);intro _ _;refine w ?_;exact VE.ax rfl rfl ae.refl
theorem J1{W:World}{R:List ab}(x:Nat)(c:UInt8)(n:Nat)(m:1<=n)(r:n<=1048576):
    aq W Tryz.prog 238 [.slice (ik x) 1 1,ii n] (Row x 5 [gv c]::R) (β:=Nat) (λ_=>True) (λb=>.slice (ik b) n n)
      (λb=>Own 5 1 (.slice (ik b) n n) n (bytes (List.replicate n c))::Row x 5 [gv c]::R):=by
  refine ze Tryz.func238 Tryz.ntmps238 ?_;refine VO.re 15 (i8 ((1:Nat):Int)) rfl (by rw[dB zO]) ?_;refine VO.re 17 (i8 n) rfl (by rw[dB zO]) ?_;refine zr (s:=F8 n zO) (h:=?_);intro _ _;refine w ?_;refine VC.aK rfl rfl (by simp;omega) ?_;refine w ?_;refine VO.re 29 (ii n) rfl (by congr 1;exact IntWalk.i64_in _ zO) ?_;refine zq ?_;refine ay.dd eH rfl rfl rfl ?_ ?_ rfl ?_
  · omega
  · simp only[maxLen];omega
  intro b;refine w ?_;refine zq ?_;refine ay.copy eH rfl rfl zh (λw e=>jW.row (ys:=[]) (xs:=[gv c]) (by simp) rfl e (by simp only[mn];(focus repeat first|exact .head _|apply List.Mem.tail))) rfl ?_;refine w ?_;have i:(bytes [c]).take (1*1)++(List.replicate n (Value.int .u8 0)).drop (1*1)=bytes (List.replicate 1 c++List.replicate (n-1) 0):=by
    rw[dQ,dD];simp[bytes]
  have k:min 1 n=1:=by omega
  rw[k]
  refine VC.loop (α:=Nat) (λj=>1<=j/\j<=n) (λj=>Own 5 1 (.slice (ik b) n n) n (bytes (List.replicate j c++List.replicate (n-j) 0))::Row x 5 [gv c]::R)
    (λj=>[(7,.slice (ik b) n n),(8,ii j)]) (λj=>n-j) rfl 1 ⟨eI _,m⟩ ?_ zB ?_
  · rw[<-i];exact ae.refl
  · rintro j ⟨p,o⟩
    refine w ?_
    refine zk ?_ ?_<;>intro f
    · have d:j<n:=by simpa using f
      refine w ?_
      refine zx [7] 8 [0,1,2,3,4,5,6,7,8,9] [] ?_
      refine w ?_
      have q:aV W (Own 5 1 (.slice (ik b) n n) n (bytes (List.replicate j c++List.replicate (n-j) 0))::Row x 5 [gv c]::R) 1 (ik b) n (bytes (List.replicate j c++List.replicate (n-j) 0)):=aV.own (aQ _) zm (by simp;omega) (by simp)
      refine zq ?_;refine ay.Bg eH rfl rfl zh (d) (λw e=>(q.take o).Kh e) rfl ?_
      refine w ?_
      have l:(bytes (List.replicate j c++List.replicate (n-j) 0)).take (j*1)++((bytes (List.replicate j c++List.replicate (n-j) 0)).take (j*1)).take (min j (n-j)*1)++(bytes (List.replicate j c++List.replicate (n-j) 0)).drop (j*1+min j (n-j)*1)
          =bytes (List.replicate (j+min j (n-j)) c++List.replicate (n-(j+min j (n-j))) 0):=by
        simp only[Nat.mul_one,dQ];have g:(bytes (List.replicate j c)++bytes (List.replicate (n-j) 0)).take j=bytes (List.replicate j c):=by
          rw[Tj (by simp),qy (by simp)]
        rw[g];have a2:(bytes (List.replicate j c)).take (min j (n-j))=bytes (List.replicate (min j (n-j)) c):=by simp[bytes,List.take_replicate]
        have a3:(bytes (List.replicate j c)++bytes (List.replicate (n-j) 0)).drop (j+min j (n-j))=bytes (List.replicate (n-(j+min j (n-j))) 0):=by
          rw[List.drop_append];simp[bytes,List.drop_replicate];omega
        rw[a2,a3,<-dQ,List.replicate_append_replicate]
      rw[l]
      refine VE.round (j+min j (n-j)) ⟨by omega,by omega⟩ zO ⟨rfl,b7 rfl (by simp),trivial⟩ ae.refl
    · have a:j=n:=by have:¬j<n:=by simpa using f
                     omega
      subst a
      refine w ?_
      refine VE.done b rfl trivial rfl ?_
      simp only[E7,List.replicate_zero,mn]
      exact ae.refl
def Pk.raw(k:Pk)(l:List UInt8):Pk:=if(k.room l.length).bad=0 then{k with eT:=k.eT++l}else k.room l.length
def Pk.fill(k:Pk)(n:Int)(c:UInt8):Pk:=if n<=0 then k else if(k.room n).bad=0 then{k with eT:=k.eT++List.replicate n.toNat c}else k.room n
theorem O7{W:World}{R:List ab}(p:Nat)(k:Pk)(n:Int)(c:UInt8):
  az W Tryz.prog 150 [ip p,ii n,gv c] (aH p k::R) (.tuple #[]) (aH p (k.fill n c)::R):=by
 (refine aq.enter Tryz.func150 Tryz.ntmps150 rfl rfl ?_);refine VC.bH (λw=>aH.bH) ?_;intro⟨t,i,j⟩;refine w ?_;refine zg ?_ ?_<;>intro d
 ·
  have l:0<n:=by simpa using d
  refine zr (s:=B7 p k n) (h:=?_);intro _ _;refine w ?_;refine zk ?_ ?_<;>intro e
  ·
   have a:(k.room n).bad=0:=by simpa using e
   obtain⟨g,q,r⟩:=Pk.tJ a;rw[g];obtain⟨m,rfl⟩:∃m:Nat,n=m:=⟨n.toNat,by omega⟩;refine VC.obtain (λw=>aH.open) ?_;rintro⟨⟨ao,cap⟩,-⟩;refine w ?_;refine zx [6,8,9] 10 [0,1,2,3,4,5,7,6,8,9,10,11,12] [Row p 307 [ii k.size,.slice ao k.eT.length cap,i6 k.bad]] ?_;refine w ?_;refine zq ?_;refine ay.bP eH rfl rfl (by(simp;done)) (by decide) rfl ?_;intro nb;refine zr (s:=J1 nb c m zO zO) (h:=?_);intro b _;refine zw ?_;refine ay.append eH rfl rfl zh (λw o=>(jW.own (aQ _) o zm).src eH.tZ) (by simp only[maxLen];omega) zO rfl ?_;intro f cap';refine w ?_;refine VE.b9 rfl rfl ?_;rw[show k.fill m c={k with eT:=k.eT++List.replicate m c}by unfold Pk.fill;rw[aE zO,lam a];simp];refine ae.trans ae.re (aH.H5 (k:={k with eT:=k.eT++List.replicate m c}) ⟨by simp;omega,i,j⟩ (by simp) (by simp[bytes]))
  ·
   have a:¬(k.room n).bad=0:=by simpa using e
   refine w ?_;refine VE.b9 rfl rfl ?_;rw[show k.fill n c=k.room n by unfold Pk.fill;rw[aE zO,aE a]];exact ae.refl
 ·
  have l:¬0<n:=by simpa using d
  refine w ?_;refine VE.b9 rfl rfl ?_;rw[show k.fill n c=k by unfold Pk.fill;rw[lam zO]];exact ae.refl
theorem BO{W:World}{R:List ab}(c:UInt8):az W Tryz.prog 281 [ib (c.toNat:Int)] R (.bool (c != 0)) R:=by
 refine ze Tryz.func281 Tryz.ntmps281 ?_;refine VE.ax rfl ?_ ?_
 ·
  congr 1;by_cases h:c=0
  · subst h;rfl
  ·
   have a:(c.toNat:Int)≠0:=λe=>h (UInt8.toNat_inj.1 (by show c.toNat=0;omega));rw[bne_iff_ne.2 h,bne_iff_ne.2 a]
 · exact ae.refl
def fh(l:List UInt8):Int:=match l.findIdx? (· != 0)with
  |some j=>j
  |none=>-1
theorem DE{W:World}{R:List ab}{ao:Option Addr}{n cap:Nat}{l:List UInt8}(d:aV W R 1 ao n (bytes l))(t:n<=1099511627776):
    az W Tryz.prog 280 [.slice ao n cap,.func (.func 281) #[] #[]] R (ii (fh l)) R:=by
  have p:l.length=n:=by have:=d.len;simpa using this
  subst p;refine ze Tryz.func280 Tryz.ntmps280 ?_
  refine VC.loop (α:=Nat) (λj=>j<=l.length/\∀i (h:i<l.length),i<j->l[i]=0) (λ_=>R)
    (λj=>[(0,.slice ao l.length cap),(1,.func (.func 281) #[] #[]),(7,ii l.length),(8,ii j)]) (λj=>l.length-j) rfl 0 ⟨c7 _,λ_ _ h=>lcs h zO⟩ ae.refl zB ?_
  rintro j ⟨r,f⟩;refine w ?_;refine zk ?_ ?_<;>intro b
  · have c:j<l.length:=by simpa using b
    obtain⟨a,rfl⟩:∃a,ao=some a:=by cases ao with|none=>have:=d.nil rfl;omega|some a=>exact⟨a,rfl⟩
    have hb1:=d
    refine zt (s:=BO l[j]) (h:=?_)
    intro _ _
    refine w ?_
    refine zk ?_ ?_<;>intro b
    · refine w ?_
      refine VE.ax rfl ?_ ?_
      · have g:l[j]≠0:=by simpa using b
        have:l.findIdx? (· != 0)=some j:=by
          rw[List.findIdx?_eq_some_iff_getElem];exact⟨c,by simpa using g,λi h=>by simp[f i zO h]⟩
        simp only[fh,this]
      · exact ae.refl
    · have k:l[j]=0:=by simpa using b
      refine w ?_
      refine VE.round (j+1) ⟨c,λi h o=>?_⟩ zO zB ae.refl
      by_cases e:i=j
      · subst e;exact k
      · exact f i h zO
  · have m:j=l.length:=by have:¬j<l.length:=by simpa using b
                          omega
    refine w ?_
    refine VE.ax rfl ?_ ?_
    · have:l.findIdx? (· != 0)=none:=by
        rw[List.findIdx?_eq_none_iff];intro x q;obtain⟨i,h,rfl⟩:=List.mem_iff_getElem.1 q;simp[f i h zO]
      simp only[fh,this]
    · exact ae.refl
theorem Rk.Gf{k:Rk}{n:Nat}(h:(k.short n).err≠0):k.number n=k.short n:=by unfold Rk.number;rw[aE h]
theorem Rk.cA{k:Rk}{n:Nat}(h:(k.short n).err=0):k.number n={k with at_:=k.at_+n}:=by unfold Rk.number;rw[lam h]
def Rk.raw(k:Rk)(n:Int):Rk:=if n<=0 then k else k.number n.toNat
def Rk.o6(k:Rk)(n:Int):List UInt8:=if n<=0 then[]else k.jk n.toNat
theorem H2{W:World}{R:List ab}(p:Nat)(k:Rk)(n:Int):
  aq W Tryz.prog 210 [ip p,ii n] (aF p k::R) (β:=Option Addr×Nat) (λ_=>True) (λx=>.slice x.1 (k.o6 n).length x.2)
   (λx=>Own 5 1 (.slice x.1 (k.o6 n).length x.2) (k.o6 n).length (bytes (k.o6 n))::aF p (k.raw n)::R):=by
 (refine aq.enter Tryz.func210 Tryz.ntmps210 rfl rfl ?_);refine VC.bH (λw=>aF.bH) ?_;intro q;have⟨A,v⟩:=q;refine w ?_;refine zk ?_ ?_<;>intro o
 ·
  have j:n<=0:=by simpa using o
  refine w ?_;refine VE.done (none,0) rfl trivial (by simp[Rk.o6,j]) ?_;simp only[Rk.o6,Rk.raw,j,if_true];exact λw b=>b.aZ _ _
 ·
  have j:¬n<=0:=by simpa using o
  obtain⟨m,rfl⟩:∃m:Nat,n=m:=⟨n.toNat,by omega⟩;have r:k.o6 m=k.jk m:=by unfold Rk.o6;rw[aE j];rfl
  have t:k.raw m=k.number m:=by unfold Rk.raw;rw[aE j];rfl
  rw[r,t];refine w ?_;by_cases c:(k.short m).err=0
  ·
   obtain⟨C,B,z⟩:=Rk.jM c;have e:=Rk.qS c;refine zr (s:=tr p k m c) (h:=?_);rintro⟨ao,cap⟩ g;refine VO.bH (λw b=>b.bn zm) ?_;intro f;have l:=Bv (W:=W) (H:=lR p k ao cap R) q c g f zm;refine zr (s:=gg l zO) (h:=?_);rintro⟨a,cap'⟩-;refine w ?_;refine VE.done (a,cap') rfl trivial (by rw[e]) ?_;rw[e,Rk.cA c];exact λw b=>(aF.shut (k:={k with at_:=k.at_+m}) ⟨by simp only;omega,v⟩ w (b.fk (L:=Row p 362 [.slice ao k.b.length cap,ii ((k.at_+m:Nat):Int),i6 k.err,ii k.wh]::Own 5 1 (.slice ao k.b.length cap) k.b.length (bytes k.b)::Own 5 1 (.slice a m cap') m (bytes (k.jk m))::R) (by(repeat first|exact .refl|(apply aP.cons;focus repeat first|exact .head|apply nW.tail)|exact .nil|apply aP.drop)))).swap
  ·
   have d:k.jk m=[]:=by unfold Rk.jk;rw[aE c]
   refine zr (s:=xz p k m c) (h:=?_);intro _ _;refine zq ?_;have l:aV W (aF p (k.short m)::R) 1 none 0 (bytes []):=⟨rfl,by simp[bytes],λ_=>rfl,λ_ _ _ h=>by cases h⟩;refine zy rfl rfl (gg l (by decide)) ?_;rintro⟨a,cap'⟩-;refine VO.obtain (λw b=>by
    obtain⟨x,h⟩:=aF.open b.swap;exact⟨x,h⟩) ?_
   rintro⟨⟨ao,cap⟩,i⟩;have⟨u,y⟩:=i;refine w ?_;refine VE.done (a,cap') rfl trivial (by rw[d];rfl) ?_;rw[d,Rk.Gf c];exact λw b=>(aF.shut i w (b.fk (by(repeat exact .refl)))).swap
def Rk.nF(k:Rk)(n:Int):Rk:=
  if n<=0 then k else if(k.short n.toNat).err≠0 then k.short n.toNat else
  if 0<=fh (k.jk n.toNat)then{k with err:=12,wh:=k.at_+fh (k.jk n.toNat)}else{k with at_:=k.at_+n.toNat}
theorem Dm(l:List UInt8):-1<=fh l/\fh l<=l.length:=by
 unfold fh;split
 ·
  rename_i j h;obtain⟨a,_⟩:=List.findIdx?_eq_some_iff_getElem.1 h;omega
 · omega
theorem Ev{W:World}{R:List ab}(p:Nat)(k:Rk)(n:Int):
  az W Tryz.prog 234 [ip p,ii n] (aF p k::R) (.tuple #[]) (aF p (k.nF n)::R):=by
 (refine aq.enter Tryz.func234 Tryz.ntmps234 rfl rfl ?_);refine VC.bH (λw=>aF.bH) ?_;intro i;have⟨v,r⟩:=i;refine w ?_;refine zk ?_ ?_<;>intro d
 ·
  have g:n<=0:=by simpa using d
  refine w ?_;refine VE.ax rfl ?_ ?_
  · rfl
  · unfold Rk.nF;rw[lam g];exact ae.refl
 ·
  have g:¬n<=0:=by simpa using d
  obtain⟨m,rfl⟩:∃m:Nat,n=m:=⟨n.toNat,by omega⟩;refine w ?_;by_cases a:(k.short m).err=0
  ·
   obtain⟨z,x,u⟩:=Rk.jM a;have o:=Rk.qS a;have y:=Dm (k.jk m);refine zr (s:=tr p k m a) (h:=?_);rintro⟨ao,cap⟩ e;refine VO.bH (λw l=>l.bn zm) ?_;intro c;have j:=Bv (W:=W) (H:=lR p k ao cap R) i a e c zm;refine zt (s:=DE j zO) (h:=?_);intro _ _;refine w ?_;refine zk ?_ ?_<;>intro d
   ·
    have b:0<=fh (k.jk m):=by simpa using d
    refine w ?_;refine zq ?_;refine ay.call rfl rfl (λ_ _=>by simp) (Ep p k 12 (k.at_+fh (k.jk m))) (aF.shut i) rfl ?_;intro _ _;refine w ?_;refine VE.ax rfl ?_ ?_
    · rfl
    ·
     unfold Rk.nF;rw[Int.toNat_natCast,aE g,aE (by simpa using a),lam b];exact ae.refl
   ·
    have b:¬0<=fh (k.jk m):=by simpa using d
    refine w ?_;refine VE.b9 rfl ?_ ?_
    · rfl
    ·
     unfold Rk.nF;rw[Int.toNat_natCast,aE g,aE (by simpa using a),aE b];exact aF.shut (k:={k with at_:=k.at_+m}) ⟨by simp only;omega,r⟩
  ·
   refine zr (s:=xz p k m a) (h:=?_);intro _ _;refine w ?_;have j:aV W (aF p (k.short m)::R) 1 none 0 (bytes []):=⟨rfl,by simp[bytes],λ_=>rfl,λ_ _ _ h=>by cases h⟩;refine zt (s:=DE j (by decide)) (h:=?_);intro _ _;refine VO.obtain (λw l=>aF.open l) ?_;rintro⟨⟨ao,cap⟩,f⟩;have⟨q,t⟩:=f;refine w ?_;refine VE.b9 rfl ?_ ?_
   · rfl
   ·
    unfold Rk.nF;rw[Int.toNat_natCast,aE g,lam (by simpa using a)];exact aF.shut f
end Go.Proofs.YtldolcbbmnmjoaaGreat
namespace Go.Proofs.YtldolcbbmnmjoaaGreat
open Go.RowKit Go.Sl
attribute [local irreducible] Own
theorem B4{W:World}{R:List ab}{ao:Option Addr}{cap n:Nat}{l:List UInt8}(p:Nat)(k:Pk)(b:aV W R 1 ao n (bytes l)):
  az W Tryz.prog 207 [ip p,.slice ao n cap] (aH p k::R) (.tuple #[]) (aH p (k.raw l)::R):=by
 have i:l.length=n:=by have:=b.len;simpa using this
 subst i;refine aq.enter Tryz.func207 Tryz.ntmps207 rfl rfl ?_;refine VC.bH (λw=>aH.bH) ?_;intro⟨q,f,g⟩;refine zr (s:=B7 p k l.length) (h:=?_);intro _ _;refine w ?_;refine zk ?_ ?_<;>intro c
 ·
  have a:(k.room l.length).bad=0:=by simpa using c
  obtain⟨e,m,o⟩:=Pk.tJ a;rw[e];refine VC.obtain (λw=>aH.open) ?_;rintro⟨⟨ao,cap⟩,-⟩;refine zw ?_;refine ay.append eH rfl rfl zh (λw j=>(b.Kh j.tail.tail).src eH.tZ) (by simp only[maxLen];omega) zO rfl ?_;intro d cap';refine w ?_;refine VE.b9 rfl rfl ?_;rw[show k.raw l={k with eT:=k.eT++l}by unfold Pk.raw;rw[lam a]];exact aH.H5 (k:={k with eT:=k.eT++l}) ⟨by simp;omega,f,g⟩ (by simp) (by simp[bytes])
 ·
  have a:¬(k.room l.length).bad=0:=by simpa using c
  refine w ?_;refine VE.b9 rfl rfl ?_;rw[show k.raw l=k.room l.length by unfold Pk.raw;rw[aE a]];exact ae.refl
theorem Pk.xM{k:Pk}{l:List UInt8}(a:k.bad=0)(b:k.eT.length+l.length<=k.size):k.raw l={k with eT:=k.eT++l}:=by
 have e:k.room l.length=k:=by unfold Pk.room;rw[aE];omega
 unfold Pk.raw;rw[e,lam a]
theorem pQ(k:Pk):k.image=iI k.size k.eT:=rfl
theorem rA{W:World}{R:List ab}(kind:UInt8)(e s:Nat)(u:e<2^64)(v:s<2^64)(rest:List UInt8)(i:rest.length<=100)(g:FuncId)(n:∀a w,(callFunc g a).run Tryz.prog w= .ok (.enter g a) w)(cap:Array Value)
  (spec:∀p,az W Tryz.prog g (ip p::cap.toList) (aH p ⟨124,ll kind.toNat e s,0⟩::R) (.tuple #[]) (aH p ⟨124,ll kind.toNat e s++rest,0⟩::R)):
  aq W Tryz.prog 200 [ib (kind.toNat:Int),i8 e,i8 s,.func (.func g) #[] cap] R (β:=Option Addr×Nat) (λ_=>True) (λx=>.tuple #[.slice x.1 (cE (kC kind.toNat e s rest)).length x.2,i6 0])
   (λx=>b8 x (cE (kC kind.toNat e s rest))::R):=by
 have t:=gl kind.toNat e s;have r:=kind.toNat_lt;refine aq.enter Tryz.func200 Tryz.ntmps200 rfl rfl ?_;refine zr (s:=Gc 124 (by decide)) (h:=?_);intro p _;refine w ?_;refine zq ?_;refine ay.bP eH rfl rfl (by simp[Value.oneCell']) (by decide) rfl ?_;intro nb;refine zq ?_;refine ay.Am ah rfl rfl rfl zh rfl ?_;refine zr (s:=B4 (R:=Fb nb 5 (bytes bQ)::R) (l:=bQ) p ⟨124,[],0⟩ (aV.RK (aQ _) (.head _) rfl)) (h:=?_);intro _ _;rw[Pk.xM rfl (by decide)];dsimp only;refine w ?_;refine VO.re 26 (.int .u32 (kind.toNat:Nat)) rfl (by rw[vP zO]) ?_;refine zr (s:=lJ p ⟨124,[]++bQ,0⟩ kind.toNat zO) (h:=?_);intro _ _;rw[Pk.cA rfl (by simp[bQ])];dsimp only;refine zr (s:=GL p ⟨124,[]++bQ++aJ kind.toNat 4,0⟩ e) (h:=?_);intro _ _;rw[Pk.cA rfl (by simp[bQ,bV])];dsimp only;refine zr (s:=GL p ⟨124,[]++bQ++aJ kind.toNat 4++aJ e 8,0⟩ s) (h:=?_);intro _ _;rw[Pk.cA rfl (by simp[bQ,bV])];dsimp only;rw[show[]++bQ++aJ kind.toNat 4++aJ e 8++aJ s 8=ll kind.toNat e s from rfl];refine zw ?_;refine ay.call rfl rfl n (spec p) ae.re rfl ?_;intro _ _;refine zr (s:=rO p ⟨124,ll kind.toNat e s++rest,0⟩ rfl) (h:=?_);intro b _;rw[pQ];dsimp only;rw[show iI 124 (ll kind.toNat e s++rest)=kC kind.toNat e s rest from rfl];have c:(kC kind.toNat e s rest).length=124:=nO i;generalize kC kind.toNat e s rest=B at*;refine zr (s:=Gc 128 (by decide)) (h:=?_);intro q _;refine w ?_;have j:aV W (Own 5 1 (.slice (ik b) 124 124) 124 (bytes B)::R) 1 (ik b) 124 (bytes B):=aV.own (aQ _) (.head _) (by simp[c]) (by simp);refine zr (s:=B4 q ⟨128,[],0⟩ j) (h:=?_);intro _ _;rw[Pk.xM rfl (by simp[c])];dsimp only;refine w ?_;have f:=rq (W:=W) (cap:=124) (l:=B) (R:=aH q ⟨128,[]++B,0⟩::Own 5 1 (.slice (ik b) 124 124) 124 (bytes B)::R) (ao:=ik b) (by rw[c];exact j.aR (ae.drop ae.refl)) zO;rw[c]at f;refine zt (s:=f) (h:=?_);intro _ _;refine w ?_;have m:=(cV B).isLt;refine zr (s:=lJ q ⟨128,[]++B,0⟩ (cV B).toNat zO) (h:=?_);intro _ _;rw[Pk.cA rfl (by simp[c])];dsimp only;rw[show[]++B++aJ (cV B).toNat 4=cE B from rfl];refine zr (s:=rO q ⟨128,cE B,0⟩ rfl) (h:=?_);intro o _;have d:=nN c;have k:(Pk.mk 128 (cE B) 0).image=cE B:=by
  rw[pQ];unfold iI;dsimp only;rw[d];simp
 rw[k];dsimp only;refine w ?_;refine VE.done (ik o,128) rfl trivial (by rw[d];rfl) ?_;rw[show b8 (ik o,128) (cE B)=Own 5 1 (.slice (ik o) 128 128) 128 (bytes (cE B))by unfold b8;rw[d]];exact ae.re
def s5(B:List UInt8)(vs:List Nat)(i:Nat):List UInt8:=B++(vs.take i).flatMap (aJ · 4)
theorem Js(B:List UInt8)(vs:List Nat):s5 B vs 0=B:=by simp[s5]
theorem Jr(B:List UInt8)(vs:List Nat)(i:Nat)(h:i<vs.length):s5 B vs (i+1)=s5 B vs i++aJ vs[i] 4:=by
 unfold s5;rw[nZ h,E5,<-lx,Oi,List.flatMap_nil,mn]
theorem u1(vs:List Nat):(vs.flatMap (aJ · 4)).length=4*vs.length:=by
 induction vs with
 |nil=>rfl
 |cons v r a=>rw[Oi,c9,bV,a,tc];omega
theorem Dz(B:List UInt8)(vs:List Nat)(i:Nat)(h:i<=vs.length):(s5 B vs i).length=B.length+4*i:=by
 unfold s5;rw[c9,u1,j1,Nat.min_eq_left h]
theorem Pj{W:World}{R:List ab}(h:aM)(z:h.aX)(y:h.fit)(B:List UInt8)(H:B.length=24)(p k:Nat):
  az W Tryz.prog 361 [ip p,ip k] (aH p ⟨124,B,0⟩::Row k 388 h.cells::R) (.tuple #[]) (aH p ⟨124,B++fq h.rest,0⟩::Row k 388 h.cells::R):=by
 have m:=(Pp h).1 z;obtain⟨n,u,c,b,d,a,es,g⟩:=h;dsimp only at m;obtain⟨c,rfl⟩:=RA (show 0<=c by omega);obtain⟨b,rfl⟩:=RA (show 0<=b by omega);obtain⟨d,rfl⟩:=RA (show 0<=d by omega);obtain⟨a,rfl⟩:=RA (show 0<=a by omega);have F:g<4294967296:=y.sum;clear y z;refine ze Tryz.func361 Tryz.ntmps361 ?_;refine zq ?_;refine ay.bP st_86 rfl rfl (by simp[Value.oneCell']) (by decide) rfl ?_;intro nb;refine w ?_;have t:∀v∈[c,b,d,a],v<4294967296:=by
  intro v r;simp only[List.mem_cons,TW,or_false]at r;omega
 have G:[c,b,d,a].length=4:=rfl;have e:∀(i:Nat)(h:i< [c,b,d,a].length),[Value.int .i64 (c:Int),ii (b:Int),ii (d:Int),ii (a:Int)][i]?=some (ii (([c,b,d,a][i]:Nat):Int)):=by
  intro i h;match i,h with
  |0,_=>rfl
  |1,_=>rfl
  |2,_=>rfl
  |3,_=>rfl
 refine VC.loop (α:=Nat) (λi=>i<=4) (λi=>Row nb 3 [Value.int .i64 (c:Int),ii (b:Int),ii (d:Int),ii (a:Int)]::aH p ⟨124,s5 B [c,b,d,a] i,0⟩::Row k 388 (aM.mk n u c b d a es g).cells::R)
  (λi=>[(0,ip p),(1,ip k),(14,.slice (ik nb) 4 4),(15,ii 4),(16,ii i)]) (λi=>4-i) rfl 0 (c7 _) (by rw[Js];exact ae.refl) zB ?_
 intro i C;have E:=Dz B [c,b,d,a] i C;refine w ?_;refine zk ?_ ?_<;>intro x
 ·
  have f:i<4:=by have:=cI x;omega
  have hr1:aV W (Row nb 3 [Value.int .i64 (c:Int),ii (b:Int),ii (d:Int),ii (a:Int)]::aH p ⟨124,s5 B [c,b,d,a] i,0⟩::Row k 388 (aM.mk n u c b d a es g).cells::R) 1 (ik nb) 4 [Value.int .i64 (c:Int),ii (b:Int),ii (d:Int),ii (a:Int)]:=
   aV.row (by simp[Value.oneCell']) (.head _) rfl
  have j:=Jr B [c,b,d,a] i f;have e:=e i f;have r:=t _ (fF (l:=[c,b,d,a]) f);generalize[c,b,d,a][i]'f=v at*;generalize A:[Value.int .i64 (c:Int),ii (b:Int),ii (d:Int),ii (a:Int)]=cs at*;refine w ?_;refine VO.pure rfl rfl (af.rZ ah rfl rfl hr1 e) rfl ?_;refine w ?_;refine VO.re 22 (.int .u32 v) rfl (by rw[vP r]) ?_;refine zr (s:=lJ p ⟨124,s5 B [c,b,d,a] i,0⟩ v zO) (h:=?_);intro _ _;rw[Pk.cA rfl (by dsimp only;omega)];dsimp only;rw[<-j];refine w ?_;exact VE.round (i+1) zO zO ⟨rfl,rfl,rfl,rfl,b7 rfl (by congr 1),trivial⟩ ae.re
 ·
  have q:i=4:=by have:=dx x;omega
  subst q;have o:s5 B [c,b,d,a] 4++aJ (mB es) 4++aJ g 4=B++fq (aM.mk n u c b d a es g).rest:=by
   simp[s5,fq,aM.rest]
  rw[<-o];generalize s5 B [c,b,d,a] 4=D at*;cases es
  ·
   refine w ?_;refine VO.re 28 (.int .u32 (mB false)) rfl rfl ?_;refine zr (s:=lJ p ⟨124,D,0⟩ (mB false) (He _)) (h:=?_);intro _ _;rw[Pk.cA rfl (by dsimp only;omega)];dsimp only;refine w ?_;refine VO.re 32 (.int .u32 g) rfl rfl ?_;refine zr (s:=lJ p ⟨124,D++aJ (mB false) 4,0⟩ g zO) (h:=?_);intro _ _;rw[Pk.cA rfl (by simp[bV];omega)];refine w ?_;refine VE.b9 rfl rfl ?_;exact ae.re
  ·
   refine w ?_;refine VO.re 28 (.int .u32 (mB true)) rfl rfl ?_;refine zr (s:=lJ p ⟨124,D,0⟩ (mB true) (He _)) (h:=?_);intro _ _;rw[Pk.cA rfl (by dsimp only;omega)];dsimp only;refine w ?_;refine VO.re 32 (.int .u32 g) rfl rfl ?_;refine zr (s:=lJ p ⟨124,D++aJ (mB true) 4,0⟩ g zO) (h:=?_);intro _ _;rw[Pk.cA rfl (by simp[bV];omega)];refine w ?_;refine VE.b9 rfl rfl ?_;exact ae.re
theorem OP{W:World}{R:List ab}(h:bZ)(g:h.aX)(f:h.fit)(B:List UInt8)(l:B.length=24)(p d:Nat):
  az W Tryz.prog 362 [ip p,ip d] (aH p ⟨124,B,0⟩::Row d 395 h.cells::R) (.tuple #[]) (aH p ⟨124,B++fq h.rest,0⟩::Row d 395 h.cells::R):=by
 have b:=(OT h).1 g;obtain⟨i,k,a,c⟩:=h;dsimp only at b;obtain⟨a,rfl⟩:=RA (show 0<=a by omega);have j:c<4294967296:=f.sum;clear f g;have e:B++aJ a 4++aJ c 4=B++fq (bZ.mk i k a c).rest:=by simp[fq,bZ.rest]
 rw[<-e];refine ze Tryz.func362 Tryz.ntmps362 ?_;refine VO.re 6 (.int .u32 a) rfl (by show Value.int .u32 (IntKind.u32.wrap (a:Int))=_;rw[vP zO]) ?_;refine zr (s:=lJ p ⟨124,B,0⟩ a zO) (h:=?_);intro _ _;rw[Pk.cA rfl (by dsimp only;omega)];dsimp only;refine w ?_;refine VO.re 10 (.int .u32 c) rfl rfl ?_;refine zr (s:=lJ p ⟨124,B++aJ a 4,0⟩ c zO) (h:=?_);intro _ _;rw[Pk.cA rfl (by simp[bV];omega)];refine w ?_;refine VE.b9 rfl rfl ?_;exact ae.re
theorem OL{W:World}{R:List ab}(h:bJ)(e:h.aX)(g:h.fit)(B:List UInt8)(j:B.length=24)(p c:Nat):
  az W Tryz.prog 201 [ip p,ip c] (aH p ⟨124,B,0⟩::Row c 157 h.cells::R) (.tuple #[]) (aH p ⟨124,B++fq h.rest,0⟩::Row c 157 h.cells::R):=by
 have b:=(vi h).1 e;obtain⟨f,i,a⟩:=h;dsimp only at b;obtain⟨a,rfl⟩:=RA (show 0<=a by omega);clear g e;have d:B++aJ a 4=B++fq (bJ.mk f i a).rest:=by simp[fq,bJ.rest]
 rw[<-d];refine ze Tryz.func201 Tryz.ntmps201 ?_;refine VO.re 6 (.int .u32 a) rfl (by show Value.int .u32 (IntKind.u32.wrap (a:Int))=_;rw[vP zO]) ?_;refine zr (s:=lJ p ⟨124,B,0⟩ a zO) (h:=?_);intro _ _;rw[Pk.cA rfl (by dsimp only;omega)];dsimp only;refine w ?_;refine VE.b9 rfl rfl ?_;exact ae.re
theorem Hq{W:World}{R:List ab}(h:aM)(f:h.fit):
  aq W Tryz.prog 328 [.agg h.cells.toArray] R (β:=Option Addr×Nat) (λ_=>True) (λx=>.tuple #[.slice x.1 h.enc.2.length x.2,i6 h.enc.1]) (λx=>b8 x h.enc.2::R):=by
 have t:=f.count;refine ze Tryz.func328 Tryz.ntmps328 ?_;refine zj λ_=>?_;refine w ?_;rename_i e;refine zt (s:=sS h.epoch h.seq) (h:=?_);intro _ _;refine w ?_;refine zg ?_ ?_<;>intro b
 ·
  have b:¬dJ h.epoch h.seq:=by simpa using b
  have a:=rT (h:=h) (λg=>b g.1);refine w ?_;refine VE.done (none,0) rfl trivial (by rw[a];rfl) ?_;rw[a];exact ae.trans (ae.re (L:=R)) (λw c=>c.aZ _ _)
 have m:dJ h.epoch h.seq:=by simpa using b
 refine zt (s:=Ab h.count 1 1023) (h:=?_);intro _ _;refine w ?_;refine zg ?_ ?_<;>intro b
 ·
  have b:¬(1<=h.count/\h.count<=1023):=by have d:=b;simp at d;omega
  have a:=rT (h:=h) (λg=>b g.2.1);refine w ?_;refine VE.done (none,0) rfl trivial (by rw[a];rfl) ?_;rw[a];exact ae.trans (ae.re (L:=R)) (λw c=>c.aZ _ _)
 have n:1<=h.count/\h.count<=1023:=by simpa using b
 refine zt (s:=Ab h.index 0 (h.count-1)) (h:=?_);intro _ _;refine w ?_;refine zg ?_ ?_<;>intro b
 ·
  have b:¬(0<=h.index/\h.index<=h.count-1):=by have d:=b;simp at d;omega
  have a:=rT (h:=h) (λg=>b g.2.2.1);refine w ?_;refine VE.done (none,0) rfl trivial (by rw[a];rfl) ?_;rw[a];exact ae.trans (ae.re (L:=R)) (λw c=>c.aZ _ _)
 have o:0<=h.index/\h.index<=h.count-1:=by simpa using b
 refine zt (s:=Ab h.av 0 15) (h:=?_);intro _ _;refine w ?_;refine zg ?_ ?_<;>intro b
 ·
  have b:¬(0<=h.av/\h.av<=15):=by have d:=b;simp at d;omega
  have a:=rT (h:=h) (λg=>b g.2.2.2.1);refine w ?_;refine VE.done (none,0) rfl trivial (by rw[a];rfl) ?_;rw[a];exact ae.trans (ae.re (L:=R)) (λw c=>c.aZ _ _)
 have q:0<=h.av/\h.av<=15:=by simpa using b
 refine zt (s:=Ab h.row 0 4095) (h:=?_);intro _ _;refine w ?_;refine zk ?_ ?_<;>intro i
 ·
  have b:¬(0<=h.row/\h.row<=4095):=by have d:=i;simp at d;omega
  have a:=rT (h:=h) (λg=>b g.2.2.2.2);refine w ?_;refine VE.done (none,0) rfl trivial (by rw[a];rfl) ?_;rw[a];exact ae.trans (ae.re (L:=R)) (λw c=>c.aZ _ _)
 have r:0<=h.row/\h.row<=4095:=by simpa using i
 have j:h.aX:=⟨m,n,o,q,r⟩;have u:=s7 j;rw[u];refine w ?_;refine VO.pure rfl rfl (af.bB rfl) rfl ?_;refine zr (s:=rA 1 h.epoch h.seq f.epoch f.seq (fq h.rest) (by rw[fi];exact rU h) 361 (λ_ _=>by simp) #[ip e] (λp=>Pj h j f _ (gl _ _ _) p e)) (h:=?_);rintro⟨k,l⟩-;refine w ?_;exact VE.done (k,l) rfl trivial rfl ae.re
theorem Hp{W:World}{R:List ab}(h:bZ)(d:h.fit):
  aq W Tryz.prog 329 [.agg h.cells.toArray] R (β:=Option Addr×Nat) (λ_=>True) (λx=>.tuple #[.slice x.1 h.enc.2.length x.2,i6 h.enc.1]) (λx=>b8 x h.enc.2::R):=by
 refine ze Tryz.func329 Tryz.ntmps329 ?_;refine zj λ_=>?_;refine w ?_;rename_i c;refine zt (s:=sS h.epoch h.seq) (h:=?_);intro _ _;refine w ?_;refine zg ?_ ?_<;>intro b
 ·
  have b:¬dJ h.epoch h.seq:=by simpa using b
  have a:=Hj (h:=h) (λg=>b g.1);refine w ?_;refine VE.done (none,0) rfl trivial (by rw[a];rfl) ?_;rw[a];exact ae.trans (ae.re (L:=R)) (λw e=>e.aZ _ _)
 have l:dJ h.epoch h.seq:=by simpa using b
 refine zt (s:=Ab h.count 1 1023) (h:=?_);intro _ _;refine w ?_;refine zk ?_ ?_<;>intro f
 ·
  have b:¬(1<=h.count/\h.count<=1023):=by have o:=f;simp at o;omega
  have a:=Hj (h:=h) (λg=>b g.2);refine w ?_;refine VE.done (none,0) rfl trivial (by rw[a];rfl) ?_;rw[a];exact ae.trans (ae.re (L:=R)) (λw e=>e.aZ _ _)
 have m:1<=h.count/\h.count<=1023:=by simpa using f
 have i:h.aX:=⟨l,m⟩;have n:=wy i;rw[n];refine w ?_;refine VO.pure rfl rfl (af.bB rfl) rfl ?_;refine zr (s:=rA 2 h.epoch h.seq d.epoch d.seq (fq h.rest) (by rw[fi];exact vr h) 362 (λ_ _=>by simp) #[ip c] (λp=>OP h i d _ (gl _ _ _) p c)) (h:=?_);rintro⟨j,k⟩-;refine w ?_;exact VE.done (j,k) rfl trivial rfl ae.re
theorem Bn{W:World}{R:List ab}(h:bJ)(d:h.fit):
  aq W Tryz.prog 143 [.agg h.cells.toArray] R (β:=Option Addr×Nat) (λ_=>True) (λx=>.tuple #[.slice x.1 h.enc.2.length x.2,i6 h.enc.1]) (λx=>b8 x h.enc.2::R):=by
 refine ze Tryz.func143 Tryz.ntmps143 ?_;refine zj λ_=>?_;refine w ?_;rename_i c;refine zt (s:=sS h.epoch h.seq) (h:=?_);intro _ _;refine w ?_;refine zg ?_ ?_<;>intro b
 ·
  have b:¬dJ h.epoch h.seq:=by simpa using b
  have a:=vh (h:=h) (λg=>b g.1);refine w ?_;refine VE.done (none,0) rfl trivial (by rw[a];rfl) ?_;rw[a];exact ae.trans (ae.re (L:=R)) (λw e=>e.aZ _ _)
 have l:dJ h.epoch h.seq:=by simpa using b
 refine zt (s:=Ab h.tail 0 2047) (h:=?_);intro _ _;refine w ?_;refine zk ?_ ?_<;>intro f
 ·
  have b:¬(0<=h.tail/\h.tail<=2047):=by have o:=f;simp at o;omega
  have a:=vh (h:=h) (λg=>b g.2);refine w ?_;refine VE.done (none,0) rfl trivial (by rw[a];rfl) ?_;rw[a];exact ae.trans (ae.re (L:=R)) (λw e=>e.aZ _ _)
 have m:0<=h.tail/\h.tail<=2047:=by simpa using f
 have i:h.aX:=⟨l,m⟩;have n:=qL i;rw[n];refine w ?_;refine VO.pure rfl rfl (af.bB rfl) rfl ?_;refine zr (s:=rA 3 h.epoch h.seq d.epoch d.seq (fq h.rest) (by rw[fi];exact nu h) 201 (λ_ _=>by simp) #[ip c] (λp=>OL h i d _ (gl _ _ _) p c)) (h:=?_);rintro⟨j,k⟩-;refine w ?_;exact VE.done (j,k) rfl trivial rfl ae.re
theorem rR{W:World}{R:List ab}{ao c:Option Addr}{cap cap':Nat}{a b:List UInt8}(d:aV W R 1 ao a.length (bytes a))(e:aV W R 1 c b.length (bytes b)):
  az W Tryz.prog 257 [.slice ao a.length cap,.slice c b.length cap'] R (.bool (decide (a=b))) R:=by
 refine ze Tryz.func257 Tryz.ntmps257 ?_;refine VO.pure rfl rfl (af.toStr (l:=a) ah rfl rfl rfl rfl d rfl) rfl ?_;refine w ?_;refine VO.pure rfl rfl (af.toStr (l:=b) ah rfl rfl rfl rfl e rfl) rfl ?_;refine VO.pure rfl rfl (af.EN ah rfl rfl rfl rfl) rfl ?_;refine w ?_;refine VE.ax rfl ?_ ?_
 · rfl
 · exact ae.refl
theorem xO{W:World}{R:List ab}{ao:Option Addr}{cap:Nat}{l:List UInt8}(i:aV W R 1 ao l.length (bytes l))(c:l.length<=cap)(k:UInt8)(g:cX l k≠0)(f1 f2:Value):
  az W Tryz.prog 263 [.slice ao l.length cap,ib (k.toNat:Int),f1,f2] R (i6 (cX l k)) R:=by
 refine ze Tryz.func263 Tryz.ntmps263 ?_;refine zk ?_ ?_<;>intro e
 ·
  have j:l.length≠128:=by have:=e;simp at this;omega
  refine w ?_;refine VE.ax rfl ?_ ?_
  · unfold cX;rw[lam j]
  · exact ae.refl
 have f:l.length=128:=by have:=e;simp at this;omega
 refine zt (s:=HA i c) (h:=?_);intro _ _;refine w ?_;refine zk ?_ ?_<;>intro e
 ·
  have j:lZ l≠k:=by intro h;rw[h]at e;simp at e
  refine w ?_;refine VE.ax rfl ?_ ?_
  · unfold cX;rw[aE zO,lam j]
  · exact ae.refl
 have o:lZ l=k:=by
  have v:((lZ l).toNat:Int)=(k.toNat:Int):=by simpa using e
  exact UInt8.toNat_inj.1 zO
 have p:aO l 124 4≠(cV (l.take 124)).toNat:=by
  intro h;apply g;unfold cX;rw[aE zO,aE (λh=>h o),aE (λt=>t h)]
 obtain⟨a,rfl⟩:∃a,ao=some a:=by cases ao with|none=>have:=i.nil rfl;omega|some a=>exact⟨a,rfl⟩
 have r:=xN i 124 128 zO zO c;rw[show 128-124=4 from rfl]at r;have u:=gh l 124 4;have b:(l.take 124).length=124:=by rw[j1];omega
 refine w ?_;refine VO.re 22 (.slice (jO (some a) cap 124 1) 4 (cap-124)) rfl (by rw[f]) ?_;refine zr (s:=sk r zO) (h:=?_);intro q _;refine w ?_;have hr2:=i.aR (H:=aF q ⟨(l.drop 124).take 4,0,0,0⟩::R) (ae.drop ae.refl);have m:=Rk.eo (k:=⟨(l.drop 124).take 4,0,0,0⟩) (n:=4) rfl (by simp;omega);have d:=rq (cap:=cap) (l:=l.take 124) (W:=W) (R:=aF q ⟨(l.drop 124).take 4,4,0,0⟩::R) (ao:=some a) (by rw[b];exact jf (i.aR (ae.drop ae.refl)) 124 zO) zO;rw[b]at d;refine zx [1] 4 [0,2,3,1,4,5] R ?_;refine zr (s:=nK q ⟨(l.drop 124).take 4,0,0,0⟩) (h:=?_);intro _ _;rw[m.1,m.2.2];dsimp only;rw[show dE (List.take 4 (List.drop 0 (List.take 4 (List.drop 124 l))))=aO l 124 4 by unfold aO;rw[KP,List.take_take];rfl,PA];refine zt (s:=d) (h:=?_);intro _ _;refine w ?_;refine VC.cU rfl rfl (by simpa using λh=>p zO) ?_;refine w ?_;refine VE.ax rfl ?_ ?_
 · unfold cX;rw[aE zO,aE (λh=>h o),lam p]
 · exact ae.re
theorem tF{W:World}{j r:List ab}{ao:Option Addr}{cap:Nat}{l:List UInt8}(o:aV W j 1 ao l.length (bytes l))(hr1:aV W r 1 ao l.length (bytes l))(g:l.length<=cap)(k:UInt8)(b:cX l k=0)
  (g1 g2:FuncId)(c d:Array Value)(v:∀a w,(callFunc g1 a).run Tryz.prog w= .ok (.enter g1 a) w)(y:∀a w,(callFunc g2 a).run Tryz.prog w= .ok (.enter g2 a) w)(C:List UInt8)(u:Int)
  (rest:∀p,az W Tryz.prog g1 ([ip p,i8 (aO l 8 8:Nat),i8 (aO l 16 8:Nat)]++c.toList) (aF p ⟨l,24,0,0⟩::j) (.tuple #[]) r)
  (again:aq W Tryz.prog g2 ([]++d.toList) r (β:=Option Addr×Nat) (λ_=>True) (λx=>.tuple #[.slice x.1 C.length x.2,i6 u]) (λx=>b8 x C::r)):
  az W Tryz.prog 263 [.slice ao l.length cap,ib (k.toNat:Int),.func (.func g1) #[] c,.func (.func g2) #[] d] j (i6 (if u=0/\C=l then 0 else 80)) r:=by
 have t:=pT b;have D:lZ l=k:=by
  unfold cX at b;rw[aE zO]at b;split at b
  · cases b
  · rename_i h;exact Decidable.of_not_not h
 have L:aO l 124 4=(cV (l.take 124)).toNat:=by
  unfold cX at b;rw[aE zO,aE (λh=>h D)]at b;split at b
  · cases b
  · rename_i h;exact Decidable.of_not_not h
 obtain⟨a,rfl⟩:∃a,ao=some a:=by cases ao with|none=>have:=o.nil rfl;omega|some a=>exact⟨a,rfl⟩
 have E:=xN o 124 128 zO zO g;rw[show 128-124=4 from rfl]at E;have I:=gh l 124 4;have e:(l.take 124).length=124:=by rw[j1];omega
 refine ze Tryz.func263 Tryz.ntmps263 ?_;refine VC.aK rfl rfl (by simp;omega) ?_;refine zt (s:=HA o g) (h:=?_);intro _ _;rw[D];refine w ?_;refine VC.aK rfl rfl (by simp) ?_;refine w ?_;refine VO.re 22 (.slice (jO (some a) cap 124 1) 4 (cap-124)) rfl (by rw[t]) ?_;refine zr (s:=sk E zO) (h:=?_);intro q _;refine w ?_;have hr2:=o.aR (H:=aF q ⟨(l.drop 124).take 4,0,0,0⟩::j) (ae.drop ae.refl);have B:=Rk.eo (k:=⟨(l.drop 124).take 4,0,0,0⟩) (n:=4) rfl (by simp;omega);have i:=rq (cap:=cap) (l:=l.take 124) (W:=W) (R:=aF q ⟨(l.drop 124).take 4,4,0,0⟩::j) (ao:=some a) (by rw[e];exact jf (o.aR (ae.drop ae.refl)) 124 zO) zO;rw[e]at i;refine zx [1] 4 [0,2,3,1,4,5] j ?_;refine zr (s:=nK q ⟨(l.drop 124).take 4,0,0,0⟩) (h:=?_);intro _ _;rw[B.1,B.2.2];dsimp only;rw[show dE (List.take 4 (List.drop 0 (List.take 4 (List.drop 124 l))))=aO l 124 4 by unfold aO;rw[KP,List.take_take];rfl,PA];refine zt (s:=i) (h:=?_);intro _ _;refine w ?_;refine VC.aK rfl rfl (by simp;omega) ?_;refine zr (s:=sk (R:=j) o zO) (h:=?_);intro p _;refine zr (s:=H2 p ⟨l,0,0,0⟩ 8) (h:=?_);rintro⟨M,rc⟩-;rw[show(Rk.mk l 0 0 0).raw 8=⟨l,8,0,0⟩by unfold Rk.raw;rw[aE (by decide)];exact(Rk.eo (k:=⟨l,0,0,0⟩) (n:=8) rfl (by simp only;omega)).2.2];have g8:=Rk.eo (k:=⟨l,8,0,0⟩) (n:=8) rfl (by simp only;omega);have g16:=Rk.eo (k:=⟨l,16,0,0⟩) (n:=8) rfl (by simp only;omega);refine zr (s:=Gp p ⟨l,8,0,0⟩) (h:=?_);intro _ _;rw[g8.1,g8.2.2];dsimp only;refine zr (s:=Gp p ⟨l,16,0,0⟩) (h:=?_);intro _ _;rw[g16.1,g16.2.2];dsimp only;refine zw ?_;refine ay.call rfl rfl v (rest p) ae.re rfl ?_;intro _ _;refine zw ?_;refine ay.call rfl rfl y again ae.re rfl ?_;rintro⟨F,K⟩-;refine VO.bH (p:=F=none->C.length=0) (λw J=>J.bn (.head _)) ?_;intro A;refine w ?_;refine zg ?_ ?_<;>intro m
 ·
  have m:u≠0:=by simpa using m
  refine w ?_;refine VE.ax rfl ?_ ?_
  · rw[aE (λh=>m h.1)]
  · exact ae.re
 have m:u=0:=by simpa using m
 refine zt (s:=rR (hr1.aR (ae.drop ae.refl)) (BR (x:=(F,K)) A (.head _))) (h:=?_);intro _ _;refine w ?_;refine zk ?_ ?_<;>intro f
 ·
  have z:¬C=l:=by have f:=f;simp at f;exact λh=>f h.symm
  refine w ?_;refine VE.ax rfl ?_ ?_
  · rw[aE (λh=>z h.2)]
  · exact ae.re
 ·
  have G:C=l:=by have f:=f;simp at f;exact f.symm
  refine w ?_;refine VE.ax rfl ?_ ?_
  · rw[lam ⟨m,G⟩]
  · exact ae.re
theorem Pm{W:World}{R:List ab}(h:aM)(d:h.fit)(a:Nat):
  aq W Tryz.prog 334 [ip a] (Row a 388 h.cells::R) (β:=Option Addr×Nat) (λ_=>True) (λx=>.tuple #[.slice x.1 h.enc.2.length x.2,i6 h.enc.1]) (λx=>b8 x h.enc.2::Row a 388 h.cells::R):=by
 (refine aq.enter Tryz.func334 Tryz.ntmps334 rfl rfl ?_);refine zr (s:=Hq h d) (h:=?_);rintro⟨b,c⟩-;refine w ?_;exact VE.done (b,c) rfl trivial rfl ae.re
theorem OQ{W:World}{R:List ab}(h:bZ)(d:h.fit)(a:Nat):
  aq W Tryz.prog 332 [ip a] (Row a 395 h.cells::R) (β:=Option Addr×Nat) (λ_=>True) (λx=>.tuple #[.slice x.1 h.enc.2.length x.2,i6 h.enc.1]) (λx=>b8 x h.enc.2::Row a 395 h.cells::R):=by
 (refine aq.enter Tryz.func332 Tryz.ntmps332 rfl rfl ?_);refine zr (s:=Hp h d) (h:=?_);rintro⟨b,c⟩-;refine w ?_;exact VE.done (b,c) rfl trivial rfl ae.re
theorem OM{W:World}{R:List ab}(h:bJ)(d:h.fit)(a:Nat):
  aq W Tryz.prog 265 [ip a] (Row a 157 h.cells::R) (β:=Option Addr×Nat) (λ_=>True) (λx=>.tuple #[.slice x.1 h.enc.2.length x.2,i6 h.enc.1]) (λx=>b8 x h.enc.2::Row a 157 h.cells::R):=by
 (refine aq.enter Tryz.func265 Tryz.ntmps265 rfl rfl ?_);refine zr (s:=Bn h d) (h:=?_);rintro⟨b,c⟩-;refine w ?_;exact VE.done (b,c) rfl trivial rfl ae.re
theorem OR{W:World}{R:List ab}{l:List UInt8}(d:l.length=128)(p b:Nat):
  az W Tryz.prog 331 [ip p,i8 (aO l 8 8:Nat),i8 (aO l 16 8:Nat),ip b] (aF p ⟨l,24,0,0⟩::Row b 395 oe.cells::R) (.tuple #[]) (Row b 395 (bZ.parse l).cells::R):=by
 have g24:=Rk.eo (k:=⟨l,24,0,0⟩) (n:=4) rfl (by simp only;omega);have a:=Rk.eo (k:=⟨l,28,0,0⟩) (n:=4) rfl (by simp only;omega);have c:=gh l;refine aq.enter Tryz.func331 Tryz.ntmps331 rfl rfl ?_;refine zr (s:=nK p ⟨l,24,0,0⟩) (h:=?_);intro _ _;rw[g24.1,g24.2.2];dsimp only;refine w ?_;refine VO.re 11 (ii (bZ.parse l).count) rfl (by rw[show dE (List.take 4 (List.drop 24 l))=aO l 24 4 from rfl,BA (c 24 4)];rfl) ?_;refine zr (s:=nK p ⟨l,28,0,0⟩) (h:=?_);intro _ _;rw[a.1,a.2.2];dsimp only;refine w ?_;apply VO.pure rfl rfl;apply af.build sb_395 rfl;simp[aC,bR,Value.cells];rfl;rfl;refine zl ((bZ.parse l).cells) (vq _) ?_;refine VE.b9 rfl rfl ?_;exact ae.re (L:=Row b 395 (bZ.parse l).cells::R)
theorem ON{W:World}{R:List ab}{l:List UInt8}(c:l.length=128)(p a:Nat):
  az W Tryz.prog 264 [ip p,i8 (aO l 8 8:Nat),i8 (aO l 16 8:Nat),ip a] (aF p ⟨l,24,0,0⟩::Row a 157 og.cells::R) (.tuple #[]) (Row a 157 (bJ.parse l).cells::R):=by
 have g24:=Rk.eo (k:=⟨l,24,0,0⟩) (n:=4) rfl (by simp only;omega);have b:=gh l;refine aq.enter Tryz.func264 Tryz.ntmps264 rfl rfl ?_;refine zr (s:=nK p ⟨l,24,0,0⟩) (h:=?_);intro _ _;rw[g24.1,g24.2.2];dsimp only;refine w ?_;refine VO.re 11 (ii (bJ.parse l).tail) rfl (by rw[show dE (List.take 4 (List.drop 24 l))=aO l 24 4 from rfl,BA (b 24 4)];rfl) ?_;apply VO.pure rfl rfl;apply af.build sb_157 rfl;simp[aC,bR,Value.cells];rfl;rfl;refine zl ((bJ.parse l).cells) (vm _) ?_;refine VE.b9 rfl rfl ?_;exact ae.re (L:=Row a 157 (bJ.parse l).cells::R)
def qK(l:List UInt8)(i:Nat):List Value:=
  [i8 (aO l 8 8:Nat),i8 (aO l 16 8:Nat)]++((List.range 4).map λj=>ii (if j<i then((aO l (24+4*j) 4:Nat):Int)else 0))++[.bool false,.int .u32 0]
theorem yI(l:List UInt8)(i:Nat):(qK l i).length=8:=by simp[qK]
theorem Fw(l:List UInt8)(i:Nat)(h:i<4):(qK l i).set (2+i) (ii (aO l (24+4*i) 4:Nat))=qK l (i+1):=by
 match i,h with
 |0,_=>rfl
 |1,_=>rfl
 |2,_=>rfl
 |3,_=>rfl
theorem PI(v:Nat):((v:Int)==1)=decide (v=1):=by
 rw[Bool.eq_iff_iff];simp only[beq_iff_eq,decide_eq_true_eq];omega
theorem Pn{W:World}{R:List ab}{l:List UInt8}(q:l.length=128)(p a:Nat):
  az W Tryz.prog 333 [ip p,i8 (aO l 8 8:Nat),i8 (aO l 16 8:Nat),ip a] (aF p ⟨l,24,0,0⟩::Row a 388 j6.cells::R) (.tuple #[]) (Row a 388 (aM.parse l).cells::R):=by
 have j:=gh l;refine ze Tryz.func333 Tryz.ntmps333 ?_;refine zq ?_;refine ay.bP st_436 rfl rfl (by simp[Value.oneCell']) (by decide) rfl ?_;intro nb;refine w ?_;have b:∀(i:Nat)(h:i<4),[Value.pointer (some ⟨a,2,none⟩),.pointer (some ⟨a,3,none⟩),.pointer (some ⟨a,4,none⟩),.pointer (some ⟨a,5,none⟩)][i]?=some (.pointer (some ⟨a,2+i,none⟩)):=by
  intro i h;match i,h with
  |0,_=>rfl
  |1,_=>rfl
  |2,_=>rfl
  |3,_=>rfl
 refine VC.loop (α:=Nat) (λi=>i<=4) (λi=>Row nb 214 [Value.pointer (some ⟨a,2,none⟩),.pointer (some ⟨a,3,none⟩),.pointer (some ⟨a,4,none⟩),.pointer (some ⟨a,5,none⟩)]::aF p ⟨l,24+4*i,0,0⟩::Row a 388 (qK l i)::R)
  (λi=>[(0,ip p),(3,ip a),(17,.slice (ik nb) 4 4),(18,ii 4),(19,ii i)]) (λi=>4-i) rfl 0 (c7 _) ae.re zB ?_
 intro i o;refine w ?_;refine zk ?_ ?_<;>intro m
 ·
  have c:i<4:=by have:=cI m;omega
  have g24:=Rk.eo (k:=⟨l,24+4*i,0,0⟩) (n:=4) rfl (by simp only;omega);have b:=b i c;generalize f:[Value.pointer (some ⟨a,2,none⟩),.pointer (some ⟨a,3,none⟩),.pointer (some ⟨a,4,none⟩),.pointer (some ⟨a,5,none⟩)]=cs at*;have hr1:aV W (Row nb 214 cs::aF p ⟨l,24+4*i,0,0⟩::Row a 388 (qK l i)::R) 1 (ik nb) 4 cs:=aV.row (by rw[<-f];simp[Value.oneCell']) (.head _) (by rw[<-f];rfl);refine w ?_;refine VO.pure rfl rfl (af.rZ ah rfl rfl hr1 b) rfl ?_;refine zr (s:=nK p ⟨l,24+4*i,0,0⟩) (h:=?_);intro _ _;rw[g24.1,g24.2.2];dsimp only;refine w ?_;refine VO.re 26 (ii (aO l (24+4*i) 4:Nat)) rfl (by rw[show dE (List.take 4 (List.drop (24+4*i) l))=aO l (24+4*i) 4 from rfl,BA (j _ 4)]) ?_;refine zq ?_;refine ay.st (cs:=qK l i) ah rfl rfl rfl rfl zh (by rw[yI];omega) ?_;rw[Fw l i c];refine w ?_;refine VE.round (i+1) zO zO ⟨rfl,rfl,rfl,rfl,b7 rfl (by congr 1),trivial⟩ ?_;rw[show 24+4* (i+1)=24+4*i+4 by omega];exact ae.re
 ·
  have g:i=4:=by have:=dx m;omega
  subst g;have d:=Rk.eo (k:=⟨l,40,0,0⟩) (n:=4) rfl (by simp only;omega);have e:=Rk.eo (k:=⟨l,44,0,0⟩) (n:=4) rfl (by simp only;omega);refine VC.aR (ae.re (L:=aF p ⟨l,40,0,0⟩::Row a 388 (aM.mk (aO l 8 8) (aO l 16 8) (aO l 24 4) (aO l 28 4) (aO l 32 4) (aO l 36 4) false 0).cells::R)) ?_;refine zr (s:=nK p ⟨l,40,0,0⟩) (h:=?_);intro _ _;rw[d.1,d.2.2];dsimp only;refine zv ?_;refine VO.re 31 (.bool (aM.parse l).cw) rfl (by rw[show dE (List.take 4 (List.drop 40 l))=aO l 40 4 from rfl];show Value.bool _=Value.bool (decide (aO l 40 4=1));rw[PI]) ?_;refine zr (s:=nK p ⟨l,44,0,0⟩) (h:=?_);intro _ _;rw[e.1,e.2.2];dsimp only;refine w ?_;refine VE.b9 rfl rfl ?_;exact ae.re (L:=Row a 388 (aM.parse l).cells::R)
theorem OX{W:World}{R:List ab}{ao:Option Addr}{cap:Nat}{l:List UInt8}(i:aV W R 1 ao l.length (bytes l))(a:l.length<=cap):
  az W Tryz.prog 305 [.slice ao l.length cap] R (.tuple #[.agg (aM.dec l).2.cells.toArray,i6 (aM.dec l).1]) R:=by
 refine ze Tryz.func305 Tryz.ntmps305 ?_;refine zq ?_;refine ay.aB sb_388 rfl ?_;intro f;refine w ?_;refine VO.pure rfl rfl (af.bB rfl) rfl ?_;refine VO.pure rfl rfl (af.bB rfl) rfl ?_;have hr1:∀cs,aV W (Row f 388 cs::R) 1 ao l.length (bytes l):=λcs=>i.aR (ae.drop ae.refl);by_cases b:cX l 1=0
 ·
  have c:=pT b;have e:=show aM.dec l=if(aM.parse l).aX/\(aM.parse l).enc.2=l then(0,aM.parse l)else(80,j6)by unfold aM.dec;rw[aE (by rw[b];simp)]
  refine zt (s:=tF (hr1 j6.cells) (hr1 (aM.parse l).cells) a 1 b 333 334 #[ip f] #[ip f] (λ_ _=>by simp) (λ_ _=>by simp) (aM.parse l).enc.2 (aM.parse l).enc.1 (λp=>Pn c p f) (Pm (aM.parse l) (Po l) f)) (h:=?_);intro _ _;by_cases d:(aM.parse l).aX/\(aM.parse l).enc.2=l
  ·
   rw[lam d]at e;rw[lam ⟨Decidable.of_not_not (λh=>Ho.1 h d.1),d.2⟩,e];refine zl ((aM.parse l).cells) (By _) ?_;exact VE.results2 (.inl rfl) () rfl (aL.agg (vs:=(aM.parse l).cells) ah rfl rfl zm rfl rfl) (.tmp rfl) trivial rfl (ae.re (L:=R))
  ·
   rw[aE d]at e;rw[aE (λh=>d ⟨Decidable.of_not_not (λg=>Ho.2 g h.1),h.2⟩),e];refine w ?_;apply VO.pure rfl rfl;apply af.build sb_388 (pv:=[]) rfl;rfl;rfl;refine zl j6.cells (By _) ?_;exact VE.results2 (.inl rfl) () rfl (aL.agg (vs:=j6.cells) ah rfl rfl zm rfl rfl) (.tmp rfl) trivial rfl (ae.re (L:=R))
 ·
  rw[Mn b];refine zt (s:=xO (hr1 j6.cells) a 1 b _ _) (h:=?_);intro _ _;refine w ?_;refine VC.cU rfl rfl (by simpa using b) ?_;refine w ?_;apply VO.pure rfl rfl;apply af.build sb_388 (pv:=[]) rfl;rfl;rfl;refine zl j6.cells (By _) ?_;exact VE.results2 (.inl rfl) () rfl (aL.agg (vs:=j6.cells) ah rfl rfl zm rfl rfl) (.tmp rfl) trivial rfl (ae.re (L:=R))
theorem OW{W:World}{R:List ab}{ao:Option Addr}{cap:Nat}{l:List UInt8}(i:aV W R 1 ao l.length (bytes l))(a:l.length<=cap):
  az W Tryz.prog 303 [.slice ao l.length cap] R (.tuple #[.agg (bZ.dec l).2.cells.toArray,i6 (bZ.dec l).1]) R:=by
 refine ze Tryz.func303 Tryz.ntmps303 ?_;refine zq ?_;refine ay.aB sb_395 rfl ?_;intro f;refine w ?_;refine VO.pure rfl rfl (af.bB rfl) rfl ?_;refine VO.pure rfl rfl (af.bB rfl) rfl ?_;have hr1:∀cs,aV W (Row f 395 cs::R) 1 ao l.length (bytes l):=λcs=>i.aR (ae.drop ae.refl);by_cases b:cX l 2=0
 ·
  have c:=pT b;have e:=LM b;refine zt (s:=tF (hr1 oe.cells) (hr1 (bZ.parse l).cells) a 2 b 331 332 #[ip f] #[ip f] (λ_ _=>by simp) (λ_ _=>by simp) (bZ.parse l).enc.2 (bZ.parse l).enc.1 (λp=>OR c p f) (OQ (bZ.parse l) (Hk l) f)) (h:=?_);intro _ _;by_cases d:(bZ.parse l).aX/\(bZ.parse l).enc.2=l
  ·
   rw[lam d]at e;rw[lam ⟨Decidable.of_not_not (λh=>Df.1 h d.1),d.2⟩,e];refine zl ((bZ.parse l).cells) (vq _) ?_;exact VE.results2 (.inl rfl) () rfl (aL.agg (vs:=(bZ.parse l).cells) ah rfl rfl zm rfl rfl) (.tmp rfl) trivial rfl (ae.re (L:=R))
  ·
   rw[aE d]at e;rw[aE (λh=>d ⟨Decidable.of_not_not (λg=>Df.2 g h.1),h.2⟩),e];refine w ?_;apply VO.pure rfl rfl;apply af.build sb_395 (pv:=[]) rfl;rfl;rfl;refine zl oe.cells (vq _) ?_;exact VE.results2 (.inl rfl) () rfl (aL.agg (vs:=oe.cells) ah rfl rfl zm rfl rfl) (.tmp rfl) trivial rfl (ae.re (L:=R))
 ·
  rw[LN b];refine zt (s:=xO (hr1 oe.cells) a 2 b _ _) (h:=?_);intro _ _;refine w ?_;refine VC.cU rfl rfl (by simpa using b) ?_;refine w ?_;apply VO.pure rfl rfl;apply af.build sb_395 (pv:=[]) rfl;rfl;rfl;refine zl oe.cells (vq _) ?_;exact VE.results2 (.inl rfl) () rfl (aL.agg (vs:=oe.cells) ah rfl rfl zm rfl rfl) (.tmp rfl) trivial rfl (ae.re (L:=R))
theorem OY{W:World}{R:List ab}{ao:Option Addr}{cap:Nat}{l:List UInt8}(i:aV W R 1 ao l.length (bytes l))(a:l.length<=cap):
  az W Tryz.prog 187 [.slice ao l.length cap] R (.tuple #[.agg (bJ.dec l).2.cells.toArray,i6 (bJ.dec l).1]) R:=by
 refine ze Tryz.func187 Tryz.ntmps187 ?_;refine zq ?_;refine ay.aB sb_157 rfl ?_;intro f;refine w ?_;refine VO.pure rfl rfl (af.bB rfl) rfl ?_;refine VO.pure rfl rfl (af.bB rfl) rfl ?_;have hr1:∀cs,aV W (Row f 157 cs::R) 1 ao l.length (bytes l):=λcs=>i.aR (ae.drop ae.refl);by_cases b:cX l 3=0
 ·
  have c:=pT b;have e:=LD b;refine zt (s:=tF (hr1 og.cells) (hr1 (bJ.parse l).cells) a 3 b 264 265 #[ip f] #[ip f] (λ_ _=>by simp) (λ_ _=>by simp) (bJ.parse l).enc.2 (bJ.parse l).enc.1 (λp=>ON c p f) (OM (bJ.parse l) (Hi l) f)) (h:=?_);intro _ _;by_cases d:(bJ.parse l).aX/\(bJ.parse l).enc.2=l
  ·
   rw[lam d]at e;rw[lam ⟨Decidable.of_not_not (λh=>Dg.1 h d.1),d.2⟩,e];refine zl ((bJ.parse l).cells) (vm _) ?_;exact VE.results2 (.inl rfl) () rfl (aL.agg (vs:=(bJ.parse l).cells) ah rfl rfl zm rfl rfl) (.tmp rfl) trivial rfl (ae.re (L:=R))
  ·
   rw[aE d]at e;rw[aE (λh=>d ⟨Decidable.of_not_not (λg=>Dg.2 g h.1),h.2⟩),e];refine w ?_;apply VO.pure rfl rfl;apply af.build sb_157 (pv:=[]) rfl;rfl;rfl;refine zl og.cells (vm _) ?_;exact VE.results2 (.inl rfl) () rfl (aL.agg (vs:=og.cells) ah rfl rfl zm rfl rfl) (.tmp rfl) trivial rfl (ae.re (L:=R))
 ·
  rw[LF b];refine zt (s:=xO (hr1 og.cells) a 3 b _ _) (h:=?_);intro _ _;refine w ?_;refine VC.cU rfl rfl (by simpa using b) ?_;refine w ?_;apply VO.pure rfl rfl;apply af.build sb_157 (pv:=[]) rfl;rfl;rfl;refine zl og.cells (vm _) ?_;exact VE.results2 (.inl rfl) () rfl (aL.agg (vs:=og.cells) ah rfl rfl zm rfl rfl) (.tmp rfl) trivial rfl (ae.re (L:=R))
def dY:List UInt8:=[0,0,0,0]
def gV(b:List UInt8):List UInt8:=if b.take 4=bQ then dY++b.drop 4 else b
def oR(b:List UInt8):Bool:=decide (b.take 4=bQ)
structure T1 where
  out:List UInt8
  is:Bool
  err:Int
def FF(b:List UInt8):T1:=if b.length=128 then⟨gV b,oR b,0⟩else⟨[],false,4⟩
def ow(b:List UInt8)(e:Bool):List UInt8×Int:=
  if b.length≠128 then([],4)else if e=false then(if b.take 4=bQ then([],80)else(b,0))else(if b.take 4=dY then(bQ++b.drop 4,0)else([],80))
theorem Rq{W:World}{R:List ab}{ao:Option Addr}{cap:Nat}{l:List UInt8}(n:aV W R 1 ao l.length (bytes l))(m:l.length<=cap):
  aq W Tryz.prog 327 [.slice ao l.length cap] R (β:=Option Addr×Nat) (λ_=>True) (λx=>.tuple #[.slice x.1 (FF l).out.length x.2,.bool (FF l).is,i6 (FF l).err]) (λx=>b8 x (FF l).out::R):=by
 refine ze Tryz.func327 Tryz.ntmps327 ?_;refine zk ?_ ?_<;>intro a
 ·
  have o:l.length≠128:=by have:=a;simp at this;omega
  have e:FF l=⟨[],false,4⟩:=aE o;rw[e];refine w ?_;refine VE.done (none,0) rfl trivial rfl ?_;exact λw j=>j.aZ _ _
 have c:l.length=128:=by have:=a;simp at this;omega
 have e:FF l=⟨gV l,oR l,0⟩:=lam c;rw[e];dsimp only;refine zr (s:=gg n zO) (h:=?_);rintro⟨f,g⟩-;refine w ?_;refine VO.pure rfl rfl (af.toStr (l:=l.take 4) ah rfl rfl rfl rfl ((jf n 4 zO).aR (ae.drop ae.refl)) rfl) rfl ?_;refine VO.pure rfl rfl (af.EN (b:=bQ) ah rfl rfl rfl rfl) rfl ?_;refine w ?_;refine zk ?_ ?_<;>intro a
 ·
  have d:l.take 4=bQ:=by simpa using a
  rw[show gV l=dY++l.drop 4 from lam d,show oR l=true from ky d];refine VC.bH (λw j=>j.jd (.head _)) ?_;intro i;refine zw ?_;refine ay.IT (k:=3) eH rfl zh zO ?_;have p:(Builtin.zeroCells (Value.int .u8 0).cells (3+1)).toList++(bytes l).drop ((3+1)*1)=bytes (dY++l.drop 4):=by
   rw[dQ,show(Builtin.zeroCells (Value.int .u8 0).cells (3+1)).toList=bytes dY by simp[Builtin.zeroCells,Value.cells,bytes,dY,gv];rfl];exact JB (bytes dY++·) (by simp[bytes])
  rw[p];refine w ?_;refine VE.done (f,g) rfl trivial ?_ ?_
  ·
   have:(dY++l.drop 4).length=l.length:=by simp[dY];omega
   rw[this,a]
  ·
   have:(dY++l.drop 4).length=l.length:=by simp[dY];omega
   rw[show b8 (f,g) (dY++l.drop 4)=Own 5 1 (.slice f l.length g) l.length (bytes (dY++l.drop 4))by unfold b8;rw[this]];exact ae.re
 ·
  have d:¬l.take 4=bQ:=by simpa using a
  rw[show gV l=l from aE d,show oR l=false from gx d];refine w ?_;refine VE.done (f,g) rfl trivial ?_ ae.re;rw[a]
theorem N3{W:World}{R:List ab}{ao:Option Addr}{cap:Nat}{l:List UInt8}(k:aV W R 1 ao l.length (bytes l))(m:l.length<=cap)(b:Bool):
  aq W Tryz.prog 307 [.slice ao l.length cap,.bool b] R (β:=Option Addr×Nat) (λ_=>True) (λx=>.tuple #[.slice x.1 (ow l b).1.length x.2,i6 (ow l b).2]) (λx=>b8 x (ow l b).1::R):=by
 refine ze Tryz.func307 Tryz.ntmps307 ?_;refine zk ?_ ?_<;>intro a
 ·
  have o:l.length≠128:=by have:=a;simp at this;omega
  have e:ow l b=([],4):=lam o;rw[e];refine w ?_;refine VE.done (none,0) rfl trivial rfl ?_;exact λw j=>j.aZ _ _
 have i:l.length=128:=by have:=a;simp at this;omega
 have n:ow l b=if b=false then(if l.take 4=bQ then([],80)else(l,0))else(if l.take 4=dY then(bQ++l.drop 4,0)else([],80)):=aE (λh=>h i);rw[n];cases b
 ·
  rw[lam rfl];refine w ?_;refine VO.pure rfl rfl (af.toStr (l:=l.take 4) ah rfl rfl rfl rfl (jf k 4 zO) rfl) rfl ?_;refine VO.pure rfl rfl (af.EN (b:=bQ) ah rfl rfl rfl rfl) rfl ?_;refine w ?_;refine zk ?_ ?_<;>intro a
  ·
   have d:l.take 4=bQ:=by simpa using a
   rw[lam d];refine w ?_;refine VC.cU rfl rfl (ky d) ?_;refine w ?_;refine VE.done (none,0) rfl trivial rfl ?_;exact λw j=>j.aZ _ _
  ·
   have d:¬l.take 4=bQ:=by simpa using a
   rw[aE d];refine zr (s:=gg k zO) (h:=?_);rintro⟨f,g⟩-;refine w ?_;exact VE.done (f,g) rfl trivial rfl ae.re
 ·
  rw[aE (by decide)];refine w ?_;refine VO.pure rfl rfl (af.toStr (l:=l.take 4) ah rfl rfl rfl rfl (jf k 4 zO) rfl) rfl ?_;refine VO.pure rfl rfl (af.EN (b:=dY) ah rfl rfl rfl rfl) rfl ?_;refine w ?_;refine zk ?_ ?_<;>intro a
  ·
   have d:¬l.take 4=dY:=by simpa using a
   rw[aE d];refine w ?_;refine VE.done (none,0) rfl trivial rfl ?_;exact λw j=>j.aZ _ _
  ·
   have d:l.take 4=dY:=by simpa using a
   rw[lam d];refine zr (s:=gg k zO) (h:=?_);rintro⟨f,g⟩-;refine zw ?_;refine ay.OV (l:=bQ) eH rfl rfl zh (by simp[bQ];omega) rfl ?_;have p:(bQ.map λ(c:UInt8)=>Value.int .u8 (c.toNat:Int))++(bytes l).drop bQ.length=bytes (bQ++l.drop 4):=by
    rw[dQ];exact JB (bytes bQ++·) (by simp[bytes,bQ])
   rw[p];refine w ?_;have:(bQ++l.drop 4).length=l.length:=by simp[bQ];omega
   refine VE.done (f,g) rfl trivial ?_ ?_
   · rw[this]
   ·
    rw[show b8 (f,g) (bQ++l.drop 4)=Own 5 1 (.slice f l.length g) l.length (bytes (bQ++l.drop 4))by unfold b8;rw[this]];exact ae.re
theorem C8(n:BitVec 32)(a b:List UInt8):rP n (a++b)=rP (rP n a) b:=by simp[rP]
theorem um(n:BitVec 32)(a b:List UInt8):sT n (a++b)=sT (sT n a) b:=by
 unfold sT;rw[C8];simp
theorem C9(n:BitVec 32):sT n []=n:=by simp[sT,rP]
theorem lu{b:List UInt8}(h:(aM.dec b).1=0):cX b 1=0/\(aM.dec b).2.aX/\(aM.dec b).2.enc=(0,b)/\(aM.dec b).2=aM.parse b:=by
 unfold aM.dec at h⊢;split at h
 · rename_i c;exact lcs h c
 ·
  rename_i c;split at h
  ·
   rename_i a;rw[aE c,lam a];exact⟨Decidable.of_not_not c,a.1,by rw[s7 a.1];have:=a.2;rw[s7 a.1]at this;exact JB (Prod.mk 0) this,rfl⟩
  · cases h
theorem wx{b:List UInt8}(h:(bZ.dec b).1=0):cX b 2=0/\(bZ.dec b).2.aX/\(bZ.dec b).2.enc=(0,b):=by
 unfold bZ.dec at h⊢;split at h
 · rename_i c;exact lcs h c
 ·
  rename_i c;split at h
  ·
   rename_i a;rw[aE c,lam a];exact⟨Decidable.of_not_not c,a.1,by rw[wy a.1];have:=a.2;rw[wy a.1]at this;exact JB (Prod.mk 0) this⟩
  · cases h
theorem BP:bQ≠dY:=by decide
theorem oN{b:List UInt8}(h:b.length=128):(gV b).length=128:=by
 unfold gV;split
 · simp[dY];omega
 · exact h
theorem zL{l:List UInt8}:(gV l).take 4≠bQ:=by
 unfold gV;split
 · rw[DL (by rfl)];exact λh=>BP h.symm
 · assumption
theorem N2{l:List UInt8}(h:l.length=128):ow (gV l) (oR l)=(l,0):=by
 have c:=oN h;have b:=zL (l:=l);unfold ow oR;rw[aE zO];by_cases a:l.take 4=bQ
 ·
  rw[ky a,aE (by simp)];have e:gV l=dY++l.drop 4:=lam a;rw[e,DL (by rfl),lam rfl,List.drop_left' (by rfl),<-a,QB]
 · rw[gx a,lam rfl,aE b,show gV l=l from aE a]
theorem Qe{b:List UInt8}{e:Bool}(h:(ow b e).2=0):(ow b e).1.length=128/\gV (ow b e).1=b/\oR (ow b e).1=e:=by
 unfold ow at h⊢;split at h
 · cases h
 ·
  rename_i f;have c:b.length=128:=Decidable.of_not_not f;rw[aE f];split at h
  ·
   rename_i d;rw[lam d];split at h
   · cases h
   ·
    rename_i a;rw[aE a];exact⟨c,aE a,by rw[d];exact gx a⟩
  ·
   rename_i d;rw[aE d];split at h
   ·
    rename_i a;rw[lam a];have g:(bQ++b.drop 4).take 4=bQ:=DL (by rfl);have i:(bQ++b.drop 4).drop 4=b.drop 4:=List.drop_left' (by rfl);refine⟨by simp[bQ];omega,?_,?_⟩
    ·
     show gV (bQ++b.drop 4)=b;unfold gV;rw[lam g,i,<-a,QB]
    ·
     show oR (bQ++b.drop 4)=e;cases e with
     |true=>exact ky g
     |false=>exact lcs rfl d
   · cases h
structure bK where
  av:Int
  row:Int
  data:List UInt8
def bK.qP(p:bK):Prop:=p.av<0\/15<p.av\/p.row<0\/4095<p.row
instance (p:bK):Decidable p.qP:=by unfold bK.qP;exact inferInstance
def ot(e s n i:Nat)(p:bK):aM:=⟨e,s,i,n,p.av,p.row,oR p.data,(cV (gV p.data)).toNat⟩
def gw(e s n i:Nat)(p:bK):List UInt8:=(ot e s n i p).enc.2
def dp(e s n:Nat):List bK->Nat->List (List UInt8)
  |[],_=>[]
  |p::r,i=>gw e s n i p::gV p.data::dp e s n r (i+1)
def eh(e s n:Nat):List bK->Nat->List UInt8
  |[],_=>[]
  |p::r,i=>gw e s n i p++eh e s n r (i+1)
def fB(e s:Nat)(l:List bK):bZ:=⟨e,s,l.length,(cV (eh e s l.length l 0)).toNat⟩
def dZ(e s:Nat)(l:List bK):Int×List (List UInt8):=
  if l.length<1\/1023<l.length then(1,[])else if ¬dJ e s\/∃p∈l,p.qP then(3,[])else if ∃p∈l,p.data.length≠128 then(4,[])else
  (0,dp e s l.length l 0++[(fB e s l).enc.2])
theorem cj(e s n:Nat):∀(l:List bK)(i:Nat),(dp e s n l i).length=2*l.length
 |[],_=>rfl
 |_::r,i=>by simp only[dp,tc,cj e s n r];omega
theorem nH(e s n:Nat):∀(l:List bK)(i j:Nat)(h:j<l.length),(dp e s n l i)[2*j]?=some (gw e s n (i+j) l[j])/\(dp e s n l i)[2*j+1]?=some (gV l[j].data)
  |p::r,i,0,_=>⟨rfl,rfl⟩
  |p::r,i,j+1,h=>by
    have a:=nH e s n r (i+1) j (by simpa using h);rw[show 2* (j+1)=2*j+2 by omega,show 2*j+2+1=(2*j+1)+2 by omega];simp only[dp,List.getElem?_cons_succ,List.getElem_cons_succ];rw[show i+(j+1)=i+1+j by omega];exact a
theorem ml(e s n:Nat):∀(l m:List bK)(i:Nat),eh e s n (l++m) i=eh e s n l i++eh e s n m (i+l.length)
 |[],m,i=>by simp[eh]
 |p::r,m,i=>by simp only[QD,eh,ml e s n r,lx,tc];rw[show i+1+r.length=i+(r.length+1)by omega]
theorem qz(e s n:Nat):∀(l m:List bK)(i:Nat),dp e s n (l++m) i=dp e s n l i++dp e s n m (i+l.length)
 |[],m,i=>by simp[dp]
 |p::r,m,i=>by simp only[QD,dp,qz e s n r,tc];rw[show i+1+r.length=i+(r.length+1)by omega]
structure k9(e s:Nat)(l:List bK):Prop where
  lO:dJ e s
  n1:1<=l.length
  n2:l.length<=1023
  pat:∀p∈l,(0<=p.av/\p.av<=15)/\(0<=p.row/\p.row<=4095)/\p.data.length=128
def eM(e s:Nat)(l:List bK):List (List UInt8):=dp e s l.length l 0++[(fB e s l).enc.2]
theorem gQ(e s:Nat)(l:List bK):(eM e s l).length=2*l.length+1:=by simp[eM,cj]
theorem qe{e s:Nat}{l:List bK}(h:k9 e s l):dZ e s l=(0,eM e s l):=by
 unfold dZ;rw[aE (by have:=h.n1;have:=h.n2;omega),aE,aE]
 · rfl
 · rintro⟨p,a,c⟩;exact c (h.pat p a).2.2
 ·
  rintro(b|⟨p,a,d⟩)
  · exact b h.lO
  · have:=h.pat p a;unfold bK.qP at d;omega
theorem Cg{e s:Nat}{l:List bK}(h:(dZ e s l).1=0):k9 e s l:=by
 unfold dZ at h;split at h
 · cases h
 ·
  rename_i g;split at h
  · cases h
  ·
   rename_i a;split at h
   · cases h
   ·
    rename_i c;refine⟨Decidable.of_not_not λq=>a (.inl q),by omega,by omega,λp b=>?_⟩;have f:¬p.qP:=λq=>a (.inr ⟨p,b,q⟩);have d:p.data.length=128:=Decidable.of_not_not λq=>c ⟨p,b,q⟩;unfold bK.qP at f;exact⟨by omega,by omega,d⟩
theorem GB(e s:Nat)(l:List bK):(k9 e s l/\dZ e s l=(0,eM e s l))\/(¬k9 e s l/\(dZ e s l).1≠0/\(dZ e s l).2=[]):=by
 by_cases h:(dZ e s l).1=0
 · exact .inl ⟨Cg h,qe (Cg h)⟩
 ·
  refine .inr ⟨λq=>h (by rw[qe q]),h,?_⟩;unfold dZ at h⊢;split
  · rfl
  ·
   split
   · rfl
   ·
    split
    · rfl
    · rename_i a b c;rw[aE a,aE b,aE c]at h;exact lcs rfl h
theorem s6{e s:Nat}{l:List bK}(h:k9 e s l){i:Nat}(b:i<l.length):(ot e s l.length i l[i]).aX:=by
 have a:=h.pat l[i] (fF b);have:=h.n2;exact⟨h.lO,⟨by simp only[ot];omega,by simp only[ot];omega⟩,⟨by simp only[ot];omega,by simp only[ot];omega⟩,a.1,a.2.1⟩
theorem Ml(e s n i:Nat)(p:bK):(ot e s n i p).sum<4294967296:=(cV (gV p.data)).isLt
theorem zu{e s:Nat}{l:List bK}(h:k9 e s l):(fB e s l).aX:=⟨h.lO,by have:=h.n1;simp only[fB];omega,by have:=h.n2;simp only[fB];omega⟩
theorem LK(e s:Nat)(l:List bK):(fB e s l).sum<4294967296:=(cV _).isLt
theorem z7{e s:Nat}{l:List bK}(h:k9 e s l){i:Nat}(a:i<l.length):aM.dec (gw e s l.length i l[i])=(0,ot e s l.length i l[i]):=Mm _ (s6 h a) (Ml _ _ _ _ _)
theorem Bz{e s:Nat}{l:List bK}(h:k9 e s l){i:Nat}(a:i<l.length):(gw e s l.length i l[i]).length=128:=by
 unfold gw;rw[s7 (s6 h a)];exact fm _ _ _ _ (rU _)
theorem wv{e s:Nat}{l:List bK}(h:k9 e s l):bZ.dec (fB e s l).enc.2=(0,fB e s l):=LL _ (zu h) (LK _ _ _)
theorem oH{e s:Nat}{l:List bK}(h:k9 e s l):(fB e s l).enc.2.length=128:=by
 rw[wy (zu h)];exact fm _ _ _ _ (vr _)
theorem rb{e s:Nat}{l:List bK}{i:Nat}(a:i<l.length):(eM e s l)[2*i]?=some (gw e s l.length i l[i]):=by
 unfold eM;rw[Ah (by rw[cj];omega),(nH e s l.length l 0 i a).1,PA]
theorem tL{e s:Nat}{l:List bK}{i:Nat}(a:i<l.length):(eM e s l)[2*i+1]?=some (gV l[i].data):=by
 unfold eM;rw[Ah (by rw[cj];omega),(nH e s l.length l 0 i a).2]
theorem lE(e s:Nat)(l:List bK):(eM e s l)[2*l.length]?=some (fB e s l).enc.2:=by
 unfold eM;rw[Ob (by rw[cj];exact eI _),cj];simp
theorem Ay{e s:Nat}{l:List bK}(h:k9 e s l):∀r∈eM e s l,r.length=128:=by
 intro r c;obtain⟨j,a⟩:=List.mem_iff_getElem?.1 c;have b:=(HE.1 a).1;rw[gQ]at b;rcases w9 j (2*l.length)with h1|h1
 ·
  rcases Nat.mod_two_eq_zero_or_one j with h2|h2
  ·
   rw[show j=2* (j/2)by omega,rb zO]at a;injection a with a;rw[<-a];exact Bz h _
  ·
   rw[show j=2* (j/2)+1 by omega,tL zO]at a;injection a with a;rw[<-a];exact oN (h.pat _ (fF _)).2.2
 ·
  rw[show j=2*l.length by omega,lE]at a;injection a with a;rw[<-a];exact oH h
abbrev fN:=Nat->List UInt8
def yh(sec:fN)(e s:Nat)(n:Int)(i:Nat):Prop:=
  (aM.dec (sec (2*i))).1=0/\(aM.dec (sec (2*i))).2.epoch=e/\(aM.dec (sec (2*i))).2.seq=s/\(aM.dec (sec (2*i))).2.index=i/\(aM.dec (sec (2*i))).2.count=n/\
  (ow (sec (2*i+1)) (aM.dec (sec (2*i))).2.cw).2=0/\(cV (sec (2*i+1))).toNat=(aM.dec (sec (2*i))).2.sum
instance (sec:fN)(e s:Nat)(n:Int)(i:Nat):Decidable (yh sec e s n i):=by unfold yh;exact inferInstance
def jx(sec:fN)(i:Nat):bK:=⟨(aM.dec (sec (2*i))).2.av,(aM.dec (sec (2*i))).2.row,(ow (sec (2*i+1)) (aM.dec (sec (2*i))).2.cw).1⟩
def fE(sec:fN):Nat->List UInt8
  |0=>[]
  |i+1=>fE sec i++sec (2*i)
def en(sec:fN):Int:=(aM.dec (sec 0)).2.count
def Lp(sec:fN)(room e s:Nat):Prop:=
  (aM.dec (sec 0)).1=0/\2*en sec+1<=room/\(∀i,i<(en sec).toNat->yh sec e s (en sec) i)/\
  (bZ.dec (sec (2* (en sec).toNat)))=(0,⟨e,s,en sec,(cV (fE sec (en sec).toNat)).toNat⟩)
instance instCmtN:DecidableEq bZ:=λa b=>if h:a.epoch=b.epoch/\a.seq=b.seq/\a.count=b.count/\a.sum=b.sum then isTrue (by cases a;cases b;simp_all)else isFalse (λq=>h (by rw[q];exact⟨rfl,rfl,rfl,rfl⟩))
instance (sec:fN)(room e s:Nat):Decidable (Lp sec room e s):=by unfold Lp;exact inferInstance
def iv(sec:fN)(room e s:Nat):Option (List bK):=if Lp sec room e s then some ((List.range (en sec).toNat).map (jx sec))else none
theorem qU(e s:Nat)(sec:fN)(n:Nat):∀(m:Nat),(∀i,i<m->sec (2*i)=gw e s n i (jx sec i))->eh e s n ((List.range m).map (jx sec)) 0=fE sec m
  |0,_=>rfl
  |m+1,h=>by
    rw[KQ,jv,ml,qU e s sec n m (λi a=>h i (by omega))];simp only[BI,HG,eh,mn,ew,KN,PA,fE];rw[h m (by omega)]
theorem Bd(sec:fN)(room e s:Nat)(l:List bK):iv sec room e s=some l↔k9 e s l/\2*l.length+1<=room/\∀j,j<2*l.length+1->(eM e s l)[j]?=some (sec j):=by
 constructor
 ·
  intro h;unfold iv at h;split at h
  ·
   rename_i J;injection h with h;obtain⟨o,d,m,t⟩:=J;have g0:=(lu o).2.1;have q:1<=en sec/\en sec<=1023:=g0.2.1;obtain⟨N,g⟩:∃N:Nat,en sec=N:=⟨(en sec).toNat,by omega⟩;rw[g]at m t d q;rw[g]at h;rw[Int.toNat_natCast]at m t h;have A:l.length=N:=by rw[<-h];simp
   have c:∀(i:Nat)(a:i<l.length),l[i]=jx sec i:=by
    intro i a;simp only[<-h,Jz,List.getElem_range]
   have r:∀i,i<N->sec (2*i)=gw e s N i (jx sec i)/\sec (2*i+1)=gV (jx sec i).data/\(jx sec i).data.length=128/\(0<=(jx sec i).av/\(jx sec i).av<=15)/\(0<=(jx sec i).row/\(jx sec i).row<=4095)/\dJ e s:=by
    intro i a;obtain⟨D,a2,a3,a4,a5,E,F⟩:=m i a;obtain⟨_,y,G,L⟩:=lu D;obtain⟨H,c2,I⟩:=Qe E;have K:(aM.dec (sec (2*i))).2=ot e s N i (jx sec i):=by
     unfold ot jx;dsimp only;rw[c2,I,F,<-a2,<-a3,<-a4,<-a5]
    refine⟨?_,c2.symm,H,y.2.2.2.1,y.2.2.2.2,by rw[<-a2,<-a3];exact y.1⟩;unfold gw;rw[<-K,G]
   have k:k9 e s l:=by
    refine⟨(r 0 zO).2.2.2.2.2,by omega,by omega,λp x=>?_⟩;obtain⟨i,a,rfl⟩:=List.mem_iff_getElem.1 x;rw[c i a];have:=r i zO;exact⟨this.2.2.2.1,this.2.2.2.2.1,this.2.2.1⟩
   refine⟨k,by omega,λj M=>?_⟩;rcases w9 j (2*l.length)with h1|h1
   ·
    rcases Nat.mod_two_eq_zero_or_one j with h2|h2
    ·
     obtain⟨i,rfl⟩:∃i,j=2*i:=⟨j/2,by omega⟩;rw[rb zO,c i zO,A,<-(r i zO).1]
    ·
     obtain⟨i,rfl⟩:∃i,j=2*i+1:=⟨j/2,by omega⟩;rw[tL zO,c i zO,<-(r i zO).2.1]
   ·
    obtain rfl:j=2*l.length:=by omega
    rw[lE];have z:fB e s l=⟨e,s,N,(cV (fE sec N)).toNat⟩:=by
     unfold fB;rw[A,<-h,qU e s sec N N (λi a=>(r i a).1)]
    have n:=wx (b:=sec (2*N)) (by rw[t]);rw[t]at n;rw[z,n.2.2,A]
  · cases h
 ·
  rintro⟨v,d,f⟩;have q:=v.n1;have u:∀(i:Nat)(a:i<l.length),sec (2*i)=gw e s l.length i l[i]/\sec (2*i+1)=gV l[i].data:=by
   intro i a;have h1:=f (2*i) zO;have h2:=f (2*i+1) zO;rw[rb a]at h1;rw[tL a]at h2;injection h1 with h1;injection h2 with h2;exact⟨h1.symm,h2.symm⟩
  have n:∀(i:Nat)(a:i<l.length),aM.dec (sec (2*i))=(0,ot e s l.length i l[i]):=λi a=>by rw[(u i a).1];exact z7 v a
  have C:∀(i:Nat)(a:i<l.length),ow (sec (2*i+1)) (ot e s l.length i l[i]).cw=(l[i].data,0):=λi a=>by rw[(u i a).2];exact N2 (v.pat _ (fF a)).2.2
  have o:=n 0 zO;rw[Nat.mul_zero]at o;have g:en sec=l.length:=by unfold en;rw[o];rfl
  have x:∀(i:Nat)(a:i<l.length),jx sec i=l[i]:=by
   intro i a;unfold jx;rw[n i a];dsimp only;rw[C i a];rfl
  have B:(List.range l.length).map (jx sec)=l:=by
   apply E6
   · simp
   · intro i h1 h2;simp only[Jz,List.getElem_range];exact x i h2
  unfold iv;rw[lam]
  · rw[g,Int.toNat_natCast,B]
  ·
   refine⟨by rw[o],by rw[g];omega,?_,?_⟩
   ·
    intro i a;rw[g,Int.toNat_natCast]at a;unfold yh;rw[g,n i a];dsimp only;rw[C i a,(u i a).2];exact⟨rfl,rfl,rfl,rfl,rfl,rfl,rfl⟩
   ·
    have h1:=f (2*l.length) zO;rw[lE]at h1;injection h1 with h1;rw[g,Int.toNat_natCast,<-h1,wv v];congr 1;unfold fB;congr 3;rw[<-qU e s sec l.length l.length (λi a=>by rw[x i a];exact(u i a).1),B]
def tK(sec:fN)(size a:Nat):fN:=λj=>sec ((a+j)%size)
def ofM(sec:fN)(size e:Nat):Nat->Nat->Nat->Nat->List (Nat×List bK)
  |0,_,_,_=>[]
  |f+1,a,us,b=>if a<=4611686018427387904 then match iv (tK sec size b) (size-us) e a with
    |none=>[]
    |some l=>(a,l)::ofM sec size e f (a+1) (us+(2*l.length+1)) ((b+(2*l.length+1))%size)
    else[]
def bN(a:List (Nat×List bK)):Nat:=(a.map λt=>2*t.2.length+1).sum
end Go.Proofs.YtldolcbbmnmjoaaGreat
namespace Go.Proofs.YtldolcbbmnmjoaaGreat
open Go.RowKit Go.Sl
attribute [local irreducible] Own
def QG:Nat:=4611686018427387904
def se(s:Nat):List (List bK)->List (Nat×List bK)
  |[]=>[]
  |l::r=>(s,l)::se (s+1) r
def bu(ls:List (List bK)):Nat:=(ls.map λl=>2*l.length+1).sum
theorem fQ(l:List bK)(r:List (List bK)):bu (l::r)=(2*l.length+1)+bu r:=by simp[bu]
theorem ny(a b:List (List bK)):bu (a++b)=bu a+bu b:=by simp[bu]
theorem qM(t:Nat×List bK)(r:List (Nat×List bK)):bN (t::r)=(2*t.2.length+1)+bN r:=by simp[bN]
theorem Bh(a b:List (Nat×List bK)):bN (a++b)=bN a+bN b:=by simp[bN]
theorem wA:∀(ls:List (List bK))(s:Nat),bN (se s ls)=bu ls
 |[],_=>rfl
 |l::r,s=>by rw[se,qM,fQ,wA r]
theorem oZ:∀(ls:List (List bK))(s:Nat),(se s ls).length=ls.length
 |[],_=>rfl
 |_::r,s=>by simp[se,oZ r]
theorem Ew(sec:fN)(size a:Nat):tK sec size (a%size)=tK sec size a:=by
 funext j;unfold tK;rw[Nat.mod_add_mod]
section
variable{sec:fN}{size e:Nat}
theorem CV{room s:Nat}{l:List bK}(h:iv sec room e s=some l):2*l.length+1<=room/\1<=l.length:=by
 have:=(Bd sec room e s l).1 h;exact⟨this.2.1,this.1.n1⟩
theorem HP:∀(f b us a:Nat),us<=size->us+bN (ofM sec size e f b us a)<=size
  |0,_,us,_,h=>by simpa[ofM,bN]using h
  |f+1,b,us,a,h=>by
    unfold ofM;split
    · split
      · simpa[bN]using h
      · rename_i l c
        have d:=CV c
        have g:=HP f (b+1) (us+(2*l.length+1)) ((a+(2*l.length+1))%size) zO
        rw[qM];dsimp only;omega
    · simpa[bN]using h
theorem As:∀(ls:List (List bK))(f a us b:Nat),(∀(k:Nat)(h:k<ls.length),a+k<=QG/\iv (tK sec size (b+bu (ls.take k))) (size-(us+bu (ls.take k))) e (a+k)=some ls[k])->ls.length<=f->
    ofM sec size e f a us b=se a ls++ofM sec size e (f-ls.length) (a+ls.length) (us+bu ls) (if ls=[]then b else(b+bu ls)%size)
  |[],f,a,us,b,_,_=>by simp[se,bu]
  |l::r,0,a,us,b,_,h=>by simp at h
  |l::r,f+1,a,us,b,h,j=>by
    obtain⟨c,d⟩:=h 0 (by simp);simp only[DK,BH,List.getElem_cons_zero,show bu []=0 from rfl]at c d;have n:=As r f (a+1) (us+(2*l.length+1)) ((b+(2*l.length+1))%size) (λk m=>by
      obtain⟨o,g⟩:=h (k+1) (by simpa using m);rw[pS,fQ,List.getElem_cons_succ]at g;refine⟨by omega,?_⟩;rw[<-Ew,Nat.mod_add_mod,Ew,show b+(2*l.length+1)+bu (r.take k)=b+(2*l.length+1+bu (r.take k))by omega,show us+(2*l.length+1)+bu (r.take k)=us+(2*l.length+1+bu (r.take k))by omega,show a+1+k=a+(k+1)by omega];exact g) (by simpa using j)
    rw[ofM,lam (show a<=4611686018427387904 from c),d];dsimp only;rw[n];simp only[se,QD,tc,fQ,reduceCtorEq,if_false,List.cons.injEq,true_and];congr 2
    · omega
    · omega
    · omega
    · by_cases i:r=[]
      · subst i;simp[bu]
      · rw[aE i,Nat.mod_add_mod];congr 1;omega
end
def jq(e s:Nat):List (List bK)->List (List UInt8)
  |[]=>[]
  |l::r=>eM e s l++jq e (s+1) r
theorem gP(e:Nat):∀(ls:List (List bK))(s:Nat),(jq e s ls).length=bu ls
 |[],_=>rfl
 |l::r,s=>by rw[jq,c9,gQ,gP e r,fQ]
theorem nB(e:Nat):∀(a b:List (List bK))(s:Nat),jq e s (a++b)=jq e s a++jq e (s+a.length) b
  |[],b,s=>rfl
  |l::r,b,s=>by
    simp only[QD,jq,nB e r,lx,tc];rw[show s+1+r.length=s+(r.length+1)by omega]
theorem Ja(e:Nat)(ls:List (List bK))(s k j:Nat)(h:k<ls.length)(c:j<2*ls[k].length+1):(jq e s ls)[bu (ls.take k)+j]?=(eM e (s+k) ls[k])[j]? :=by
 have a:ls=ls.take k++ls[k]::ls.drop (k+1):=by rw[<-vE h,QB]
 have b:jq e s ls=jq e s (ls.take k)++(eM e (s+k) ls[k]++jq e (s+k+1) (ls.drop (k+1))):=by
  conv=>lhs;rw[a]
  rw[nB,jq,j1,Nat.min_eq_left zO]
 rw[b,Ob (by rw[gP];omega),gP,show bu (ls.take k)+j-bu (ls.take k)=j by omega,Ah (by rw[gQ];exact c)]
theorem yJ(ls:List (List bK))(k:Nat)(h:k<ls.length):bu (ls.take k)+(2*ls[k].length+1)<=bu ls:=by
 have a:ls=ls.take k++ls[k]::ls.drop (k+1):=by rw[<-vE h,QB]
 have:bu ls=bu (ls.take k)+((2*ls[k].length+1)+bu (ls.drop (k+1))):=by
  conv=>lhs;rw[a]
  rw[ny,fQ]
 omega
def K5(e s:Nat)(ls:List (List bK)):Prop:=∀(k:Nat)(h:k<ls.length),k9 e (s+k) ls[k]
theorem FV{sec:fN}{size e s at_:Nat}{ls:List (List bK)}(b:K5 e s ls)(g:bu ls<=size)(f:∀j,j<bu ls->(jq e s ls)[j]?=some (sec ((at_+j)%size))):
  ∀(k:Nat)(h:k<ls.length),s+k<=QG/\iv (tK sec size (at_+bu (ls.take k))) (size-(0+bu (ls.take k))) e (s+k)=some ls[k]:=by
 intro k h;have a:=b k h;have d:=yJ ls k h;refine⟨a.lO.2.2,(Bd _ _ _ _ _).2 ⟨a,by omega,λj c=>?_⟩⟩;rw[<-Ja e ls s k j h c,f _ zO];unfold tK;rw[ux]
theorem PL{sec:fN}{size e s at_ f:Nat}{ls:List (List bK)}(b:K5 e s ls)(a:bu ls<=size)(d:∀j,j<bu ls->(jq e s ls)[j]?=some (sec ((at_+j)%size)))(c:ls.length<=f):
  ofM sec size e f s 0 at_=se s ls++ofM sec size e (f-ls.length) (s+ls.length) (bu ls) (if ls=[]then at_ else(at_+bu ls)%size):=by
 have:=As ls f s 0 at_ (FV b a d) c;rwa [PA]at this
theorem zD:∀(ls:List (List bK)),ls.length<=bu ls
 |[]=>eI _
 |l::r=>by have:=zD r;rw[fQ,tc];omega
theorem HQ{sec:fN}{size e f b us a:Nat}(h:iv (tK sec size a) (size-us) e b=none):ofM sec size e f b us a=[]:=by
  cases f with
  |zero=>rfl
  |succ f=>unfold ofM;split
           · rw[h]
           · rfl
theorem uw{b:List UInt8}(h:b.take 4≠bQ)(k:UInt8)(a:k≠0):cX b k≠0:=by
 unfold cX;split
 · decide
 ·
  have:lZ b=0:=by unfold lZ;rw[aE (λq=>h q.2.1)]
  rw[this,lam (λq=>a q.symm)];decide
theorem wC{b:List UInt8}(h:b.take 4≠bQ):(aM.dec b).1≠0/\(bZ.dec b).1≠0:=by
 constructor
 · intro q;exact uw h 1 (by decide) (lu q).1
 · intro q;exact uw h 2 (by decide) (wx q).1
def gJ(ring:List UInt8):fN:=λk=>(ring.drop (128*k)).take 128
structure QT where
  Qd:List (Nat×List bK)
  next:Nat
  head:Nat
  used:Nat
def eB(ring:List UInt8)(c:bJ):Int×QT:=
  if c.enc.1≠0\/ring.length%128≠0\/ring.length/128<5\/2048<ring.length/128\/((ring.length/128:Nat):Int)<=c.tail then(1,⟨[],0,0,0⟩)else
  let a:=ofM (gJ ring) (ring.length/128) c.epoch (ring.length/128+1) c.seq 0 c.tail.toNat
  (0,⟨a,c.seq+a.length,(c.tail.toNat+bN a)% (ring.length/128),bN a⟩)
theorem vG{a i j n:Nat}(d:i<n)(f:j<n)(h:(a+i)%n=(a+j)%n):i=j:=by
 have b:=Nat.mod_add_div (a+i) n;have c:=Nat.mod_add_div (a+j) n;rw[h]at b;generalize(a+i)/n=x at*;generalize(a+j)/n=y at*;rcases Nat.lt_trichotomy x y with hxy|hxy|hxy
 ·
  have:n*x+n<=n*y:=by rw[<-Nat.mul_succ];exact Nat.mul_le_mul_left _ hxy
  omega
 · subst hxy;omega
 ·
  have:n*y+n<=n*x:=by rw[<-Nat.mul_succ];exact Nat.mul_le_mul_left _ hxy
  omega
end Go.Proofs.YtldolcbbmnmjoaaGreat
